/- Joined, as they were built one by one: Ext12 Ext13. -/
import Derived.Test.YtjmapbhgjhlefaaQ10
namespace Go.Proofs.Ytjmapbhgjhlefaa
open Go.RowKit
set_option linter.unusedVariables false
set_option maxRecDepth 100000

section
variable {w0 w : World} {F : SP} {d q : Nat} {D : Dk} {f : Fl}
theorem ld_small (D : Dk) (birth first : Nat) : ∀ k, (ldRun D birth first k).last < 18446744073709551616 ∧ (ldRun D birth first k).most < 18446744073709551616
  | 0 => ⟨by show 0 < _; omega, by show 0 < _; omega⟩
  | k + 1 => by
    obtain ⟨h1, h2⟩ := ld_small D birth first k
    have h3 : lifeB (D.read ((first + k : Nat) : Int)).1 < 18446744073709551616 := getN_lt64 _ (by simp; omega)
    rw [ld_succ]
    unfold ldStep
    split
    · exact ⟨h1, h2⟩
    · split
      · exact ⟨h1, h2⟩
      · split
        · exact ⟨h1, Nat.max_lt.2 ⟨h2, h3⟩⟩
        · exact ⟨h3, Nat.max_lt.2 ⟨h2, h3⟩⟩
theorem ld_count (D : Dk) (birth first : Nat) : ∀ k, (ldRun D birth first k).frames.length ≤ k
  | 0 => Nat.le_refl _
  | k + 1 => by
    have h := ld_count D birth first k
    rw [ld_succ]
    unfold ldStep
    split
    · show (ldRun D birth first k).frames.length ≤ _; omega
    · split
      · show (ldRun D birth first k).frames.length ≤ _; omega
      · split
        · show (ldRun D birth first k).frames.length ≤ _; omega
        · show (_ ++ [_]).length ≤ _
          rw [List.length_append]
          show _ + 1 ≤ _
          omega
def LdP (q d : Nat) (f : Fl) (D : Dk) (v : Value) (ks : Rows_) : SP := Pt q 110 (flC f v) * (Row 39 1 v ks.length (ks.map slOf) * (RoL ks * Disk d D))
theorem ld_d {v : Value} {ks : Rows_} : LdP q d f D v ks * F = Pt q 110 (flC f v) * (Row 39 1 v ks.length (ks.map slOf) * (RoL ks * (Disk d D * F))) := by unfold LdP; ac_rfl
set_option maxHeartbeats 8000000 in
theorem load_any (h : Sat w0 (FlP q f * (Disk d D * F)) w) (hfr : f.frames = []) (ho : D.off = false) (hn : f.first + f.blocks ≤ D.cells.length) (hN : D.cells.length ≤ 65536) (hb : f.birth < 18446744073709551616) :
    Calls Try.prog 57 #[.pointer (some ⟨q, 0, none⟩), .pointer (some ⟨d, 0, none⟩)] w fun e w' => e = .returned (.int .i64 0) ∧ Sat w0 (FlP q (Fl.load D f) * (Disk d D * F)) w' := by
  obtain ⟨i0, hi0', hz0', hz1', hz2'⟩ := info_parts rowsT
  have hi0 := Lib.hid hi0'; have hz0 := Lib.hid hz0'; have hz1 := Lib.hid hz1'; have hz2 := Lib.hid hz2'
  obtain ⟨v5, ks0, hks0, hfl⟩ := h.fl
  rw [hfr] at hks0
  obtain rfl : ks0 = [] := by
    cases ks0 with
    | nil => rfl
    | cons x l => simp [txt] at hks0
  obtain ⟨B0, bc0, rfl, hu1, hu2⟩ := hfl.up2.row_sl
  have HS := Lib.hid (hfl.of ld_d.symm)
  have y2 : w.cell? ⟨q, 2, none⟩ = some (.int .i64 (f.blocks : Int)) := hfl.cell 2
  have HO := Lib.hid ho; have HN := Lib.hid hN; have Hn := Lib.hid hn; have HB := Lib.hid hb
  have HE : Hid (∀ m frs, Fl.load D f = { f with life := m, frames := frs } → True) := fun _ _ _ => trivial
  have HLd : Hid (∀ st : LdS, ldRun D f.birth f.first f.blocks = st → Fl.load D f = { f with life := (st.most + 1) % 18446744073709551616, frames := st.frames }) := fun st h9 => by
    unfold Fl.load
    rw [h9, hfr]
    rfl
  have hbl16 : f.blocks ≤ 65536 := by omega
  clear h hfl hks0 hi0' hz0' hz1' hz2' ho hn hN hb hfr HE hu1 hu2
  go_enter Try.func57, Try.ntmps57
  go_wp2_with fail
  go_loopw [5, 6, 7, 17] (fun ov lv mv iv wr => ∃ (k : Nat) (st : LdS) (C : Option Addr) (cc : Nat) (ks : Rows_), k ≤ f.blocks ∧ ov = .bool st.over ∧ lv = .int .u64 (st.last : Int) ∧ mv = .int .u64 (st.most : Int) ∧ iv = .int .i64 (k : Int) ∧ Hid (st = ldRun D f.birth f.first k ∧ txt ks = st.frames ∧ Sat w0 (LdP q d f D (.slice C ks.length cc) ks * F) wr)) (fun _ _ _ iv _ => f.blocks - (intOf iv).toNat)
  case atStart => exact ⟨0, ⟨false, 0, 0, []⟩, B0, bc0, [], by omega, rfl, rfl, rfl, rfl, rfl, rfl, HS.out⟩
  case round =>
    obtain ⟨k, st, C, cc, ks, hk, rfl, rfl, rfl, rfl, HD⟩ := hrel
    obtain ⟨over, last, most, frs⟩ := st
    dsimp only
    have hsm := ld_small D f.birth f.first k
    have hct := ld_count D f.birth f.first k
    rw [← HD.out.1] at hsm hct
    obtain ⟨hs1, hs2⟩ := hsm
    dsimp only at hs1 hs2 hct
    have hkl : ks.length = frs.length := by have := congrArg List.length HD.out.2.1; rw [txt, List.length_map] at this; exact this
    have hks16 : ks.length ≤ 65536 := by omega
    clear hkl
    have HKs : Hid (txt ks = frs) := HD.out.2.1
    by_cases hlt : k < f.blocks
    · have hk2 : (k : Int) < f.blocks := by omega
      have hm : k + 1 ≤ f.blocks := hlt
      have y1 : wr.cell? ⟨q, 1, none⟩ = some (.int .i64 (f.first : Int)) := (HD.out.2.2.of ld_d).cell 1
      obtain ⟨J, hJ⟩ : ∃ J, J = f.first + k := ⟨_, rfl⟩
      have hJn : (f.first : Int) + (k : Int) = (J : Int) := by omega
      have hJs : J < D.cells.length := by have := Hn.out; omega
      have hJ16 : J < 65536 := by have := HN.out; omega
      have hwJ : IntKind.i64.wrap (J : Int) = J := by rw [IntKind.wrap_i64]; omega
      have HSt : Hid (ldRun D f.birth f.first (k + 1) = ldStep f.birth (D.read (J : Int)) ⟨over, last, most, frs⟩) := by unfold Hid; rw [ld_succ, ← HD.out.1, hJ]
      obtain ⟨r, hr⟩ : ∃ r, r = D.read (J : Int) := ⟨_, rfl⟩
      have hcode : r.2 = 0 ∨ r.2 = 24 := by rw [hr]; exact read_codes D J HO.out ⟨by omega, by omega⟩
      have HL : Hid (r.2 = 0 → r.1.length = 512) := fun h9 => by rw [hr] at h9 ⊢; exact ((HD.out.2.2.of ld_d).up4).read_len J h9 HO.out ⟨by omega, by omega⟩
      have HRd := Lib.hid (read_any d D J w0 wr _ (HD.out.2.2.of ld_d).up4)
      unfold ReadD at HRd
      rw [← hr] at HSt HRd
      clear hr hlt hJ hJs hct
      have hb16 := hbl16
      generalize hbirth : f.birth = birth at *
      obtain ⟨b, e⟩ := r
      rcases hcode with h9 | h9
      · obtain rfl : e = 0 := h9
        have hl : b.length = 512 := HL.out rfl
        have HRd2 : Hid (Calls Try.prog 81 #[.pointer (some ⟨d, 0, none⟩), .int .i64 (J : Int)] wr fun e w' => ∃ g o c, e = .returned (.tuple #[.slice (some ⟨g, o, none⟩) 512 c, .int .i64 0]) ∧ 512 ≤ c ∧ c ≤ 9223372036854775807 ∧ Sat w0 (Rb (some ⟨g, o, none⟩) b * (LdP q d f D (.slice C ks.length cc) ks * F)) w') := HRd.out.mono fun e w' ⟨v, he, hs⟩ => by
          dsimp only at hs
          rw [hl] at hs
          obtain ⟨A, c, rfl, hc1, hc2⟩ := hs.row_sl
          obtain ⟨g, o, rfl, _⟩ := hs.row_rbX.rd (by intro e; rw [List.map_eq_nil_iff] at e; rw [e] at hl; simp at hl)
          refine ⟨g, o, c, he, hc1, by unfold maxLen at hc2; omega, hs.row_rbX.of ?_⟩
          unfold LdP; ac_rfl
        obtain ⟨z1, hz1⟩ : ∃ z, getN (b.take 8) = z := ⟨_, rfl⟩
        obtain ⟨z2, hz2⟩ : ∃ z, getN ((b.drop 16).take 2) = z := ⟨_, rfl⟩
        obtain ⟨z3, hz3⟩ : ∃ z, getN ((b.drop 8).take 8) = z := ⟨_, rfl⟩
        have q1 : 8 = (b.take 8).length := by rw [List.length_take]; omega
        have q2 : 2 = ((b.drop 16).take 2).length := by rw [List.length_take, List.length_drop]; omega
        have q3 : 8 = ((b.drop 8).take 8).length := by rw [List.length_take, List.length_drop]; omega
        have HGd : Hid (goodB birth b = decide (z1 = birth ∧ z2 ≤ 480)) := by unfold Hid goodB; rw [hz1, hz2]
        have HLf : Hid (lifeB b = z3) := hz3
        have z3s : z3 < 18446744073709551616 := by rw [← hz3]; exact getN_lt64 _ (by omega)
        have HBd : Hid (bodyX b = (b.drop 18).take z2) := by unfold Hid bodyX; rw [hz2]
        have HQ : Hid (∀ (W : World) (g o c j : Nat), 0 < j → j ≤ 18 → 512 ≤ c → Rd W (some ⟨g, o, none⟩) b → Rd W (some ⟨g, o + j, none⟩) (b.drop j)) := fun W g o c j hj hj2 hc hW => by
          have h9 := Rd.drop (k := j) (cap := c) hW (by omega) (by omega)
          rw [if_neg (by omega), Option.map_some, Addr.add_lit] at h9
          exact h9
        have HG1 := Lib.hid fun (W : World) (g o c : Nat) (hW : Rd W (some ⟨g, o, none⟩) b) => oget_n (some ⟨g, o, none⟩) c (b.take 8) 8 q1 z1 hz1 W (hW.take 8) (by omega)
        have HG2 := Lib.hid fun (W : World) (g o c : Nat) (hc : 512 ≤ c) (hW : Rd W (some ⟨g, o, none⟩) b) => oget_n (some ⟨g, o + 16, none⟩) (c - 16) ((b.drop 16).take 2) 2 q2 z2 hz2 W ((HQ.out W g o c 16 (by omega) (by omega) hc hW).take 2) (by omega)
        have HG3 := Lib.hid fun (W : World) (g o c : Nat) (hc : 512 ≤ c) (hW : Rd W (some ⟨g, o, none⟩) b) => oget_n (some ⟨g, o + 8, none⟩) (c - 8) ((b.drop 8).take 8) 8 q3 z3 hz3 W ((HQ.out W g o c 8 (by omega) (by omega) hc hW).take 8) (by omega)
        have hlB := Lib.hid hl
        have z2s : z2 < 65536 := by
          rw [← hz2]
          exact Nat.lt_of_lt_of_le (getN_lt _) (by rw [← q2]; decide)
        clear HL HRd hz1 hz2 hz3 q1 q2 q3 hl
        go_upto_region 9 with (go_at_call 81; (with_reducible refine HRd2.out.mono ?_); rintro e w2 ⟨g, o, c, rfl, hc1, hc2, hs⟩; have HS2 := Lib.hid hs; clear hs)
        have y3 : w2.drew.cell? ⟨q, 3, none⟩ = some (.int .u64 (birth : Int)) := by rw [← hbirth]; exact (HS2.out.drew.right.of ld_d).cell 3
        have m1 : (8 : Int) ≤ c := by omega
        have m2 : (18 : Int) ≤ c := by omega
        have m3 : (16 : Int) ≤ c := by omega
        have m4 : ¬ c = 8 := by omega
        have m5 : ¬ c = 16 := by omega
        have m6 : ¬ c = 18 := by omega
        have HR2 := Lib.hid HS2.out.drew.rd
        have HS3 := Lib.hid HS2.out.drew
        clear HRd2
        by_cases h1 : z1 = birth
        · subst h1
          have hne : ((z1 : Int) != (z1 : Int)) = false := by simp
          by_cases h2 : z2 ≤ 480
          · have h2' : ¬ (480 : Int) < z2 := by omega
            have HGo : Hid (goodB z1 b = true) := by unfold Hid; rw [HGd.out]; exact decide_eq_true ⟨rfl, h2⟩
            have HS4 : Hid (ldRun D z1 f.first (k + 1) = if over = true ∨ z3 < last then ⟨true, last, max most z3, frs⟩ else ⟨false, z3, max most z3, frs ++ [bodyX b]⟩) := by
              unfold Hid
              rw [HSt.out]
              unfold ldStep
              rw [if_neg (by simp), if_neg (by rw [HGo.out]; simp), HLf.out]
            clear HSt HGd HLf
            refine wp_region_held_drew (S := fun w' => w'.cell? ⟨q, 3, none⟩ = some (.int .u64 (z1 : Int))) (by kernel_rfl) y3 ?_
            intro hS0
            refine rgn_take (i := 0) (v := ?rv1) rfl (by kernel_rfl) (by kernel_rfl) (by kernel_rfl) (fun _ _ _ h => h) (by rfl) ?rh1 (by assumption) ?rr1
            case rh1 => (intro w hSw; (try dsimp only at hSw); go_simp; try with_reducible rfl)
            simp only [Act.put, List.setIfInBounds_toArray, List.set_cons_zero, List.set_cons_succ]
            refine rgn_take (i := 1) (v := ?rv2) rfl (by kernel_rfl) (by kernel_rfl) (by kernel_rfl) (fun _ _ _ h => h) (by rfl) ?rh2 (by assumption) ?rr2
            case rh2 => (intro w hSw; (try dsimp only at hSw); go_simp; try with_reducible rfl)
            simp only [Act.put, List.setIfInBounds_toArray, List.set_cons_zero, List.set_cons_succ]
            refine rgn_take (i := 2) (v := ?rv3) rfl (by kernel_rfl) (by kernel_rfl) (by kernel_rfl) (fun _ _ _ h => h) (by rfl) ?rh3 (by assumption) ?rr3
            case rh3 => (intro w hSw; (try dsimp only at hSw); go_simp; try with_reducible rfl)
            simp only [Act.put, List.setIfInBounds_toArray, List.set_cons_zero, List.set_cons_succ]
            refine rgn_take (i := 3) (v := ?rv4) rfl (by kernel_rfl) (by kernel_rfl) (by kernel_rfl) (fun _ _ _ h => h) (by rfl) ?rh4 (by assumption) ?rr4
            case rh4 => (intro w hSw; (try dsimp only at hSw); go_simp; try with_reducible rfl)
            simp only [Act.put, List.setIfInBounds_toArray, List.set_cons_zero, List.set_cons_succ]
            refine rgn_take (i := 4) (v := ?rv5) rfl (by kernel_rfl) (by kernel_rfl) (by kernel_rfl) (fun _ _ _ h => h) (by rfl) ?rh5 (by assumption) ?rr5
            case rh5 => (intro w hSw; (try dsimp only at hSw); go_simp; try with_reducible rfl)
            simp only [Act.put, List.setIfInBounds_toArray, List.set_cons_zero, List.set_cons_succ]
            refine rgn_take (i := 6) (v := ?rv6) rfl (by kernel_rfl) (by kernel_rfl) (by kernel_rfl) (fun _ _ _ h => h) (by rfl) ?rh6 (by assumption) ?rr6
            case rh6 => (intro w hSw; (try dsimp only at hSw); go_simp; try with_reducible rfl)
            simp only [Act.put, List.setIfInBounds_toArray, List.set_cons_zero, List.set_cons_succ]
            refine rgn_take (i := 7) (v := ?rv7) rfl (by kernel_rfl) (by kernel_rfl) (by kernel_rfl) (fun _ _ _ h => h) (by rfl) ?rh7 (by assumption) ?rr7
            case rh7 => (intro w hSw; (try dsimp only at hSw); go_simp; try with_reducible rfl)
            simp only [Act.put, List.setIfInBounds_toArray, List.set_cons_zero, List.set_cons_succ]
            refine rgn_take (i := 8) (v := ?rv8) rfl (by kernel_rfl) (by kernel_rfl) (by kernel_rfl) (fun _ _ _ h => h) (by rfl) ?rh8 (by assumption) ?rr8
            case rh8 => (intro w hSw; (try dsimp only at hSw); go_simp; try with_reducible rfl)
            simp only [Act.put, List.setIfInBounds_toArray, List.set_cons_zero, List.set_cons_succ]
            refine rgn_take (i := 9) (v := ?rv9) rfl (by kernel_rfl) (by kernel_rfl) (by kernel_rfl) (fun _ _ _ h => h) (by rfl) ?rh9 (by assumption) ?rr9
            case rh9 => (intro w hSw; (try dsimp only at hSw); go_simp; try with_reducible rfl)
            simp only [Act.put, List.setIfInBounds_toArray, List.set_cons_zero, List.set_cons_succ]
            refine rgn_call (i := 5) rfl (by kernel_rfl) (fun K hK => ?_)
            go_simp
            go_at_call 85; (with_reducible refine (HG1.out _ g o c HR2.out).mono ?_); rintro y wx ⟨rfl, rfl⟩
            refine hK.out _ _ y3 (fun hS0 => ?_)
            clear hK K
            refine rgn_take (i := 10) (v := ?rv11) rfl (by kernel_rfl) (by kernel_rfl) (by kernel_rfl) (fun _ _ _ h => h) (by rfl) ?rh11 (by assumption) ?rr11
            case rh11 => (intro w hSw; (try dsimp only at hSw); go_simp; try with_reducible rfl)
            simp only [Act.put, List.setIfInBounds_toArray, List.set_cons_zero, List.set_cons_succ]
            refine rgn_take (i := 11) (v := ?rv12) rfl (by kernel_rfl) (by kernel_rfl) (by kernel_rfl) (fun _ _ _ h => h) (by rfl) ?rh12 (by assumption) ?rr12
            case rh12 => (intro w hSw; (try dsimp only at hSw); go_simp; try with_reducible rfl)
            simp only [Act.put, List.setIfInBounds_toArray, List.set_cons_zero, List.set_cons_succ]
            refine rgn_take (i := 12) (v := ?rv13) rfl (by kernel_rfl) (by kernel_rfl) (by kernel_rfl) (fun _ _ _ h => h) (by rfl) ?rh13 (by assumption) ?rr13
            case rh13 => (intro w hSw; (try dsimp only at hSw); go_simp; try with_reducible rfl)
            simp only [Act.put, List.setIfInBounds_toArray, List.set_cons_zero, List.set_cons_succ]
            refine rgn_take (i := 13) (v := ?rv14) rfl (by kernel_rfl) (by kernel_rfl) (by kernel_rfl) (fun _ _ _ h => h) (by rfl) ?rh14 (by assumption) ?rr14
            case rh14 => (intro w hSw; (try dsimp only at hSw); go_simp; try with_reducible rfl)
            simp only [Act.put, List.setIfInBounds_toArray, List.set_cons_zero, List.set_cons_succ]
            refine rgn_take (i := 14) (v := ?rv15) rfl (by kernel_rfl) (by kernel_rfl) (by kernel_rfl) (fun _ _ _ h => h) (by rfl) ?rh15 (by assumption) ?rr15
            case rh15 => (intro w hSw; (try dsimp only at hSw); go_simp; try with_reducible rfl)
            simp only [Act.put, List.setIfInBounds_toArray, List.set_cons_zero, List.set_cons_succ]
            refine rgn_call (i := 15) rfl (by kernel_rfl) (fun K hK => ?_)
            go_simp
            go_at_call 85; (with_reducible refine (HG2.out _ g o c hc1 HR2.out).mono ?_); rintro y wx ⟨rfl, rfl⟩
            refine hK.out _ _ y3 (fun hS0 => ?_)
            clear hK K
            refine rgn_take (i := 16) (v := ?rv17) rfl (by kernel_rfl) (by kernel_rfl) (by kernel_rfl) (fun _ _ _ h => h) (by rfl) ?rh17 (by assumption) ?rr17
            case rh17 => (intro w hSw; (try dsimp only at hSw); go_simp; try with_reducible rfl)
            simp only [Act.put, List.setIfInBounds_toArray, List.set_cons_zero, List.set_cons_succ]
            refine rgn_take (i := 17) (v := ?rv18) rfl (by kernel_rfl) (by kernel_rfl) (by kernel_rfl) (fun _ _ _ h => h) (by rfl) ?rh18 (by assumption) ?rr18
            case rh18 => (intro w hSw; (try dsimp only at hSw); go_simp; try with_reducible rfl)
            simp only [Act.put, List.setIfInBounds_toArray, List.set_cons_zero, List.set_cons_succ]
            refine wpAnyH_done (by kernel_rfl) ?_ _
            go_upto_region 12 with (go_at_call 85; (with_reducible refine (HG3.out _ g o c hc1 HR2.out).mono ?_); rintro y wx ⟨rfl, rfl⟩)
            by_cases hmx : (most : Int) < z3
            · have HM : Hid (max most z3 = z3) := by unfold Hid; exact Nat.max_eq_right (by omega)
              cases over with
              | true =>
                have HF : Hid (ldRun D z1 f.first (k + 1) = ⟨true, last, z3, frs⟩) := by unfold Hid; rw [HS4.out, if_pos (.inl rfl), HM.out]
                go_wp2_with fail
                go_roundw
                · refine ⟨k + 1, ⟨true, last, z3, frs⟩, C, cc, ks, hm, rfl, rfl, rfl, by push_cast; rfl, HF.out.symm, HKs.out, HS3.out.right⟩
                · simp [intOf]; omega
              | false =>
                by_cases hz : (z3 : Int) < last
                ·
                  have HF : Hid (ldRun D z1 f.first (k + 1) = ⟨true, last, z3, frs⟩) := by unfold Hid; rw [HS4.out, if_pos (.inr (by omega)), HM.out]
                  go_wp2_with fail
                  go_roundw
                  · refine ⟨k + 1, ⟨true, last, z3, frs⟩, C, cc, ks, hm, rfl, rfl, rfl, by push_cast; rfl, HF.out.symm, HKs.out, HS3.out.right⟩
                  · simp [intOf]; omega
                ·
                  have HF : Hid (ldRun D z1 f.first (k + 1) = ⟨false, z3, z3, frs ++ [bodyX b]⟩) := by unfold Hid; rw [HS4.out, if_neg (by rintro (h9 | h9); cases h9; omega), HM.out]
                  go_upto_region 16 with fail
                  have hs5 := HS3.out.drew
                  have y5 : w2.drew.drew.cell? ⟨q, 5, none⟩ = some (.slice C ks.length cc) := (hs5.right.of ld_d).cell 5
                  have y6 : ∀ o, (w2.alloc o).cell? ⟨q, 5, none⟩ = some (.slice C ks.length cc) := fun o => ((HS2.out.alloc' o).right.of ld_d).cell 5
                  have HS5 := Lib.hid hs5
                  obtain ⟨e18, he18⟩ : ∃ e, e = 18 + z2 := ⟨_, rfl⟩
                  have v2 : IntKind.i64.wrap (z2 : Int) = z2 := by rw [IntKind.wrap_i64]; omega
                  have v3 : (18 : Int) + (z2 : Int) = (e18 : Int) := by omega
                  have v4 : IntKind.i64.wrap (e18 : Int) = e18 := by rw [IntKind.wrap_i64]; omega
                  have m7 : (e18 : Int) ≤ c := by omega
                  have m8 : (18 : Int) ≤ e18 := by omega
                  have HZ : Hid (e18 - 18 = z2) := by unfold Hid; omega
                  obtain ⟨L, hL⟩ : ∃ L, L = bodyX b := ⟨_, rfl⟩
                  have HLl : Hid (L.length = e18 - 18) := by unfold Hid; rw [hL, HBd.out, List.length_take, List.length_drop]; have := hlB.out; omega
                  have HLb : Hid (L = (b.drop 18).take z2) := by unfold Hid; rw [hL, HBd.out]
                  have HL0 := Lib.hid hL
                  have HLs : Hid (L.length ≤ 512) := by unfold Hid; rw [HLl.out]; omega
                  have hj := (HS2.out.allocPt 39 #[.slice (some ⟨g, o + 18, none⟩) (e18 - 18) (c - 18)]).drew.drew
                  have HJ : Hid (Calls Try.prog 80 #[.slice (some ⟨w2.heap.size, 0, none⟩) 1 1] (w2.alloc (.cells #[.slice (some ⟨g, o + 18, none⟩) (e18 - 18) (c - 18)] 39)).drew.drew fun e w' => ∃ A13 c13, e = .returned (.slice A13 L.length c13) ∧ Sat w0 (RoL [(A13, c13, L)] * (Pt q 110 (flC f (.slice C ks.length cc)) * (Row 39 1 (.slice C ks.length cc) ks.length (ks.map slOf) * (RoL ks * (Disk d D * F))))) w') := by
                    refine (joinS (some ⟨w2.heap.size, 0, none⟩) 1 1 [(some ⟨g, o + 18, none⟩, c - 18, L)] rfl w0 _ _ hj ⟨RdV.of_at hj.at (fun j hj => ?_), fun k hk => ?_⟩ L (by simp [txt]) (by have := HLs.out; omega) (by omega)).mono ?_
                    · simp at hj
                      subst hj
                      show _ = some (slOf (some ⟨g, o + 18, none⟩, c - 18, L))
                      unfold slOf
                      rw [HLl.out]
                      rfl
                    · simp at hk
                      subst hk
                      rw [HLb.out]
                      exact (HQ.out _ g o c 18 (by omega) (by omega) hc1 hj.right.rd).take z2
                    · rintro y w13 ⟨A13, c13, rfl, hs⟩
                      exact ⟨A13, c13, rfl, (hs.row_rol.up2.right.up2.right).of (by rw [← ld_d])⟩
                  clear hs5 he18 hL hj
                  go_region_law (first
                    | (go_simp; go_at_call 85; (with_reducible refine (HG2.out _ g o c hc1 HS5.out.rd).mono ?_); rintro y wx ⟨rfl, rfl⟩)
                    | (go_simp; go_at_call 80; (with_reducible refine HJ.out.mono ?_); rintro y w13 ⟨A13, c13, rfl, hs⟩; have HS13 := Lib.hid hs; have z5 : w13.cell? ⟨q, 5, none⟩ = some (.slice C ks.length cc) := HS13.out.up2.cell 5; have z6 : ∀ o, (w13.alloc o).cell? ⟨q, 5, none⟩ = some (.slice C ks.length cc) := (fun o => (HS13.out.alloc' o).up2.cell 5); clear hs)
                    | (refine step_appS rfl (.tmp 71) (.tmp 81) 38 rfl 39 i0 _ 1 24 Try.underlying38 hi0.out hz0.out hz1.out hz2.out rfl (by decide) (.slice C ks.length cc) ks.length (ks.map slOf) rfl w0 _ (by exact (HS13.out.alloc' _).up3) (some ⟨w13.heap.size, 0, none⟩) 1 1 [slOf (A13, c13, L)] rfl (lit_rdv _ _ _) rfl (slOf_oneX _) (by unfold maxLen; omega) (by omega) ?_; intro A8 c8 w8 hs; have HS8 := Lib.hid hs.up3; have c1 : w8.cell? ⟨q, 5, none⟩ = some (.slice C ks.length cc) := hs.up3.cell 5; have f1 := hs.up3.frozen 5; clear hs))
                  all_goals
                    have h5 := HS8.out.set 5 (.slice A8 (ks.length + 1) c8)
                    clear c1 f1
                    revert h5
                    generalize World.setCell _ _ _ = w9
                    intro h5
                    have HS9 : Hid (Sat w0 (Pt q 110 (flC f (.slice A8 (ks.length + 1) c8)) * (Row 39 1 (.slice A8 (ks.length + 1) c8) (ks.length + 1) (ks.map slOf ++ [slOf (A13, c13, L)]) * (RoL [(A13, c13, L)] * (RoL ks * (Disk d D * F))))) w9) := h5
                    clear h5
                    have HF2 : Hid (Sat w0 (LdP q d f D (.slice A8 (ks ++ [(A13, c13, L)]).length c8) (ks ++ [(A13, c13, L)]) * F) w9) := HS9.out.of (by rw [ld_d, ← rol_app, List.map_append, List.length_append]; show _ = _ * (Row _ 1 (.slice A8 (ks.length + 1) c8) (ks.length + 1) (ks.map slOf ++ [slOf (A13, c13, L)]) * _); ac_rfl)
                    have HT : Hid (txt (ks ++ [(A13, c13, L)]) = frs ++ [bodyX b]) := by unfold Hid; rw [txt, List.map_append, ← HL0.out, ← HKs.out]; rfl
                    have HN2 : Hid ((ks ++ [(A13, c13, L)]).length = ks.length + 1) := by unfold Hid; rw [List.length_append]; rfl
                    go_wp2_with fail
                    go_roundw
                    · refine ⟨k + 1, ⟨false, z3, z3, frs ++ [bodyX b]⟩, A8, c8, ks ++ [(A13, c13, L)], hm, rfl, rfl, rfl, by push_cast; rfl, HF.out.symm, HT.out, HF2.out⟩
                    · simp [intOf]; omega
            · have HM : Hid (max most z3 = most) := by unfold Hid; exact Nat.max_eq_left (by omega)
              cases over with
              | true =>
                have HF : Hid (ldRun D z1 f.first (k + 1) = ⟨true, last, most, frs⟩) := by unfold Hid; rw [HS4.out, if_pos (.inl rfl), HM.out]
                go_wp2_with fail
                go_roundw
                · refine ⟨k + 1, ⟨true, last, most, frs⟩, C, cc, ks, hm, rfl, rfl, rfl, by push_cast; rfl, HF.out.symm, HKs.out, HS3.out.right⟩
                · simp [intOf]; omega
              | false =>
                by_cases hz : (z3 : Int) < last
                ·
                  have HF : Hid (ldRun D z1 f.first (k + 1) = ⟨true, last, most, frs⟩) := by unfold Hid; rw [HS4.out, if_pos (.inr (by omega)), HM.out]
                  go_wp2_with fail
                  go_roundw
                  · refine ⟨k + 1, ⟨true, last, most, frs⟩, C, cc, ks, hm, rfl, rfl, rfl, by push_cast; rfl, HF.out.symm, HKs.out, HS3.out.right⟩
                  · simp [intOf]; omega
                ·
                  have HF : Hid (ldRun D z1 f.first (k + 1) = ⟨false, z3, most, frs ++ [bodyX b]⟩) := by unfold Hid; rw [HS4.out, if_neg (by rintro (h9 | h9); cases h9; omega), HM.out]
                  go_upto_region 16 with fail
                  have hs5 := HS3.out.drew
                  have y5 : w2.drew.drew.cell? ⟨q, 5, none⟩ = some (.slice C ks.length cc) := (hs5.right.of ld_d).cell 5
                  have y6 : ∀ o, (w2.alloc o).cell? ⟨q, 5, none⟩ = some (.slice C ks.length cc) := fun o => ((HS2.out.alloc' o).right.of ld_d).cell 5
                  have HS5 := Lib.hid hs5
                  obtain ⟨e18, he18⟩ : ∃ e, e = 18 + z2 := ⟨_, rfl⟩
                  have v2 : IntKind.i64.wrap (z2 : Int) = z2 := by rw [IntKind.wrap_i64]; omega
                  have v3 : (18 : Int) + (z2 : Int) = (e18 : Int) := by omega
                  have v4 : IntKind.i64.wrap (e18 : Int) = e18 := by rw [IntKind.wrap_i64]; omega
                  have m7 : (e18 : Int) ≤ c := by omega
                  have m8 : (18 : Int) ≤ e18 := by omega
                  have HZ : Hid (e18 - 18 = z2) := by unfold Hid; omega
                  obtain ⟨L, hL⟩ : ∃ L, L = bodyX b := ⟨_, rfl⟩
                  have HLl : Hid (L.length = e18 - 18) := by unfold Hid; rw [hL, HBd.out, List.length_take, List.length_drop]; have := hlB.out; omega
                  have HLb : Hid (L = (b.drop 18).take z2) := by unfold Hid; rw [hL, HBd.out]
                  have HL0 := Lib.hid hL
                  have HLs : Hid (L.length ≤ 512) := by unfold Hid; rw [HLl.out]; omega
                  have hj := (HS2.out.allocPt 39 #[.slice (some ⟨g, o + 18, none⟩) (e18 - 18) (c - 18)]).drew.drew
                  have HJ : Hid (Calls Try.prog 80 #[.slice (some ⟨w2.heap.size, 0, none⟩) 1 1] (w2.alloc (.cells #[.slice (some ⟨g, o + 18, none⟩) (e18 - 18) (c - 18)] 39)).drew.drew fun e w' => ∃ A13 c13, e = .returned (.slice A13 L.length c13) ∧ Sat w0 (RoL [(A13, c13, L)] * (Pt q 110 (flC f (.slice C ks.length cc)) * (Row 39 1 (.slice C ks.length cc) ks.length (ks.map slOf) * (RoL ks * (Disk d D * F))))) w') := by
                    refine (joinS (some ⟨w2.heap.size, 0, none⟩) 1 1 [(some ⟨g, o + 18, none⟩, c - 18, L)] rfl w0 _ _ hj ⟨RdV.of_at hj.at (fun j hj => ?_), fun k hk => ?_⟩ L (by simp [txt]) (by have := HLs.out; omega) (by omega)).mono ?_
                    · simp at hj
                      subst hj
                      show _ = some (slOf (some ⟨g, o + 18, none⟩, c - 18, L))
                      unfold slOf
                      rw [HLl.out]
                      rfl
                    · simp at hk
                      subst hk
                      rw [HLb.out]
                      exact (HQ.out _ g o c 18 (by omega) (by omega) hc1 hj.right.rd).take z2
                    · rintro y w13 ⟨A13, c13, rfl, hs⟩
                      exact ⟨A13, c13, rfl, (hs.row_rol.up2.right.up2.right).of (by rw [← ld_d])⟩
                  clear hs5 he18 hL hj
                  go_region_law (first
                    | (go_simp; go_at_call 85; (with_reducible refine (HG2.out _ g o c hc1 HS5.out.rd).mono ?_); rintro y wx ⟨rfl, rfl⟩)
                    | (go_simp; go_at_call 80; (with_reducible refine HJ.out.mono ?_); rintro y w13 ⟨A13, c13, rfl, hs⟩; have HS13 := Lib.hid hs; have z5 : w13.cell? ⟨q, 5, none⟩ = some (.slice C ks.length cc) := HS13.out.up2.cell 5; have z6 : ∀ o, (w13.alloc o).cell? ⟨q, 5, none⟩ = some (.slice C ks.length cc) := (fun o => (HS13.out.alloc' o).up2.cell 5); clear hs)
                    | (refine step_appS rfl (.tmp 71) (.tmp 81) 38 rfl 39 i0 _ 1 24 Try.underlying38 hi0.out hz0.out hz1.out hz2.out rfl (by decide) (.slice C ks.length cc) ks.length (ks.map slOf) rfl w0 _ (by exact (HS13.out.alloc' _).up3) (some ⟨w13.heap.size, 0, none⟩) 1 1 [slOf (A13, c13, L)] rfl (lit_rdv _ _ _) rfl (slOf_oneX _) (by unfold maxLen; omega) (by omega) ?_; intro A8 c8 w8 hs; have HS8 := Lib.hid hs.up3; have c1 : w8.cell? ⟨q, 5, none⟩ = some (.slice C ks.length cc) := hs.up3.cell 5; have f1 := hs.up3.frozen 5; clear hs))
                  all_goals
                    have h5 := HS8.out.set 5 (.slice A8 (ks.length + 1) c8)
                    clear c1 f1
                    revert h5
                    generalize World.setCell _ _ _ = w9
                    intro h5
                    have HS9 : Hid (Sat w0 (Pt q 110 (flC f (.slice A8 (ks.length + 1) c8)) * (Row 39 1 (.slice A8 (ks.length + 1) c8) (ks.length + 1) (ks.map slOf ++ [slOf (A13, c13, L)]) * (RoL [(A13, c13, L)] * (RoL ks * (Disk d D * F))))) w9) := h5
                    clear h5
                    have HF2 : Hid (Sat w0 (LdP q d f D (.slice A8 (ks ++ [(A13, c13, L)]).length c8) (ks ++ [(A13, c13, L)]) * F) w9) := HS9.out.of (by rw [ld_d, ← rol_app, List.map_append, List.length_append]; show _ = _ * (Row _ 1 (.slice A8 (ks.length + 1) c8) (ks.length + 1) (ks.map slOf ++ [slOf (A13, c13, L)]) * _); ac_rfl)
                    have HT : Hid (txt (ks ++ [(A13, c13, L)]) = frs ++ [bodyX b]) := by unfold Hid; rw [txt, List.map_append, ← HL0.out, ← HKs.out]; rfl
                    have HN2 : Hid ((ks ++ [(A13, c13, L)]).length = ks.length + 1) := by unfold Hid; rw [List.length_append]; rfl
                    go_wp2_with fail
                    go_roundw
                    · refine ⟨k + 1, ⟨false, z3, most, frs ++ [bodyX b]⟩, A8, c8, ks ++ [(A13, c13, L)], hm, rfl, rfl, rfl, by push_cast; rfl, HF.out.symm, HT.out, HF2.out⟩
                    · simp [intOf]; omega
          · have HF : Hid (ldRun D z1 f.first (k + 1) = ⟨true, last, most, frs⟩) := by
              unfold Hid
              rw [HSt.out]
              unfold ldStep
              rw [if_neg (by simp), if_pos]
              show goodB z1 b = false
              rw [HGd.out]
              exact decide_eq_false (fun h9 => h2 h9.2)
            have h2' : (480 : Int) < z2 := by omega
            refine wp_region_held_drew (S := fun w' => w'.cell? ⟨q, 3, none⟩ = some (.int .u64 (z1 : Int))) (by kernel_rfl) y3 ?_
            intro hS0
            refine rgn_take (i := 0) (v := ?rv19) rfl (by kernel_rfl) (by kernel_rfl) (by kernel_rfl) (fun _ _ _ h => h) (by rfl) ?rh19 (by assumption) ?rr19
            case rh19 => (intro w hSw; (try dsimp only at hSw); go_simp; try with_reducible rfl)
            simp only [Act.put, List.setIfInBounds_toArray, List.set_cons_zero, List.set_cons_succ]
            refine rgn_take (i := 1) (v := ?rv20) rfl (by kernel_rfl) (by kernel_rfl) (by kernel_rfl) (fun _ _ _ h => h) (by rfl) ?rh20 (by assumption) ?rr20
            case rh20 => (intro w hSw; (try dsimp only at hSw); go_simp; try with_reducible rfl)
            simp only [Act.put, List.setIfInBounds_toArray, List.set_cons_zero, List.set_cons_succ]
            refine rgn_take (i := 2) (v := ?rv21) rfl (by kernel_rfl) (by kernel_rfl) (by kernel_rfl) (fun _ _ _ h => h) (by rfl) ?rh21 (by assumption) ?rr21
            case rh21 => (intro w hSw; (try dsimp only at hSw); go_simp; try with_reducible rfl)
            simp only [Act.put, List.setIfInBounds_toArray, List.set_cons_zero, List.set_cons_succ]
            refine rgn_take (i := 3) (v := ?rv22) rfl (by kernel_rfl) (by kernel_rfl) (by kernel_rfl) (fun _ _ _ h => h) (by rfl) ?rh22 (by assumption) ?rr22
            case rh22 => (intro w hSw; (try dsimp only at hSw); go_simp; try with_reducible rfl)
            simp only [Act.put, List.setIfInBounds_toArray, List.set_cons_zero, List.set_cons_succ]
            refine rgn_take (i := 4) (v := ?rv23) rfl (by kernel_rfl) (by kernel_rfl) (by kernel_rfl) (fun _ _ _ h => h) (by rfl) ?rh23 (by assumption) ?rr23
            case rh23 => (intro w hSw; (try dsimp only at hSw); go_simp; try with_reducible rfl)
            simp only [Act.put, List.setIfInBounds_toArray, List.set_cons_zero, List.set_cons_succ]
            refine rgn_take (i := 6) (v := ?rv24) rfl (by kernel_rfl) (by kernel_rfl) (by kernel_rfl) (fun _ _ _ h => h) (by rfl) ?rh24 (by assumption) ?rr24
            case rh24 => (intro w hSw; (try dsimp only at hSw); go_simp; try with_reducible rfl)
            simp only [Act.put, List.setIfInBounds_toArray, List.set_cons_zero, List.set_cons_succ]
            refine rgn_take (i := 7) (v := ?rv25) rfl (by kernel_rfl) (by kernel_rfl) (by kernel_rfl) (fun _ _ _ h => h) (by rfl) ?rh25 (by assumption) ?rr25
            case rh25 => (intro w hSw; (try dsimp only at hSw); go_simp; try with_reducible rfl)
            simp only [Act.put, List.setIfInBounds_toArray, List.set_cons_zero, List.set_cons_succ]
            refine rgn_take (i := 8) (v := ?rv26) rfl (by kernel_rfl) (by kernel_rfl) (by kernel_rfl) (fun _ _ _ h => h) (by rfl) ?rh26 (by assumption) ?rr26
            case rh26 => (intro w hSw; (try dsimp only at hSw); go_simp; try with_reducible rfl)
            simp only [Act.put, List.setIfInBounds_toArray, List.set_cons_zero, List.set_cons_succ]
            refine rgn_take (i := 9) (v := ?rv27) rfl (by kernel_rfl) (by kernel_rfl) (by kernel_rfl) (fun _ _ _ h => h) (by rfl) ?rh27 (by assumption) ?rr27
            case rh27 => (intro w hSw; (try dsimp only at hSw); go_simp; try with_reducible rfl)
            simp only [Act.put, List.setIfInBounds_toArray, List.set_cons_zero, List.set_cons_succ]
            refine rgn_call (i := 5) rfl (by kernel_rfl) (fun K hK => ?_)
            go_simp
            go_at_call 85; (with_reducible refine (HG1.out _ g o c HR2.out).mono ?_); rintro y wx ⟨rfl, rfl⟩
            refine hK.out _ _ y3 (fun hS0 => ?_)
            clear hK K
            refine rgn_take (i := 10) (v := ?rv29) rfl (by kernel_rfl) (by kernel_rfl) (by kernel_rfl) (fun _ _ _ h => h) (by rfl) ?rh29 (by assumption) ?rr29
            case rh29 => (intro w hSw; (try dsimp only at hSw); go_simp; try with_reducible rfl)
            simp only [Act.put, List.setIfInBounds_toArray, List.set_cons_zero, List.set_cons_succ]
            refine rgn_take (i := 11) (v := ?rv30) rfl (by kernel_rfl) (by kernel_rfl) (by kernel_rfl) (fun _ _ _ h => h) (by rfl) ?rh30 (by assumption) ?rr30
            case rh30 => (intro w hSw; (try dsimp only at hSw); go_simp; try with_reducible rfl)
            simp only [Act.put, List.setIfInBounds_toArray, List.set_cons_zero, List.set_cons_succ]
            refine rgn_take (i := 12) (v := ?rv31) rfl (by kernel_rfl) (by kernel_rfl) (by kernel_rfl) (fun _ _ _ h => h) (by rfl) ?rh31 (by assumption) ?rr31
            case rh31 => (intro w hSw; (try dsimp only at hSw); go_simp; try with_reducible rfl)
            simp only [Act.put, List.setIfInBounds_toArray, List.set_cons_zero, List.set_cons_succ]
            refine rgn_take (i := 13) (v := ?rv32) rfl (by kernel_rfl) (by kernel_rfl) (by kernel_rfl) (fun _ _ _ h => h) (by rfl) ?rh32 (by assumption) ?rr32
            case rh32 => (intro w hSw; (try dsimp only at hSw); go_simp; try with_reducible rfl)
            simp only [Act.put, List.setIfInBounds_toArray, List.set_cons_zero, List.set_cons_succ]
            refine rgn_take (i := 14) (v := ?rv33) rfl (by kernel_rfl) (by kernel_rfl) (by kernel_rfl) (fun _ _ _ h => h) (by rfl) ?rh33 (by assumption) ?rr33
            case rh33 => (intro w hSw; (try dsimp only at hSw); go_simp; try with_reducible rfl)
            simp only [Act.put, List.setIfInBounds_toArray, List.set_cons_zero, List.set_cons_succ]
            refine rgn_call (i := 15) rfl (by kernel_rfl) (fun K hK => ?_)
            go_simp
            go_at_call 85; (with_reducible refine (HG2.out _ g o c hc1 HR2.out).mono ?_); rintro y wx ⟨rfl, rfl⟩
            refine hK.out _ _ y3 (fun hS0 => ?_)
            clear hK K
            refine rgn_take (i := 16) (v := ?rv35) rfl (by kernel_rfl) (by kernel_rfl) (by kernel_rfl) (fun _ _ _ h => h) (by rfl) ?rh35 (by assumption) ?rr35
            case rh35 => (intro w hSw; (try dsimp only at hSw); go_simp; try with_reducible rfl)
            simp only [Act.put, List.setIfInBounds_toArray, List.set_cons_zero, List.set_cons_succ]
            refine rgn_take (i := 17) (v := ?rv36) rfl (by kernel_rfl) (by kernel_rfl) (by kernel_rfl) (fun _ _ _ h => h) (by rfl) ?rh36 (by assumption) ?rr36
            case rh36 => (intro w hSw; (try dsimp only at hSw); go_simp; try with_reducible rfl)
            simp only [Act.put, List.setIfInBounds_toArray, List.set_cons_zero, List.set_cons_succ]
            refine wpAnyH_done (by kernel_rfl) ?_ _
            go_wp2_with fail
            go_roundw
            · refine ⟨k + 1, ⟨true, last, most, frs⟩, C, cc, ks, hm, rfl, rfl, rfl, by push_cast; rfl, HF.out.symm, HKs.out, HS3.out.right⟩
            · simp [intOf]; omega
        · have HF : Hid (ldRun D birth f.first (k + 1) = ⟨true, last, most, frs⟩) := by
            unfold Hid
            rw [HSt.out]
            unfold ldStep
            rw [if_neg (by simp), if_pos]
            show goodB birth b = false
            rw [HGd.out]
            exact decide_eq_false (fun h9 => h1 h9.1)
          have hne : ((z1 : Int) != (birth : Int)) = true := by simp; omega
          refine wp_region_held_drew (S := fun w' => w'.cell? ⟨q, 3, none⟩ = some (.int .u64 (birth : Int))) (by kernel_rfl) y3 ?_
          intro hS0
          refine rgn_take (i := 0) (v := ?rv37) rfl (by kernel_rfl) (by kernel_rfl) (by kernel_rfl) (fun _ _ _ h => h) (by rfl) ?rh37 (by assumption) ?rr37
          case rh37 => (intro w hSw; (try dsimp only at hSw); go_simp; try with_reducible rfl)
          simp only [Act.put, List.setIfInBounds_toArray, List.set_cons_zero, List.set_cons_succ]
          refine rgn_take (i := 1) (v := ?rv38) rfl (by kernel_rfl) (by kernel_rfl) (by kernel_rfl) (fun _ _ _ h => h) (by rfl) ?rh38 (by assumption) ?rr38
          case rh38 => (intro w hSw; (try dsimp only at hSw); go_simp; try with_reducible rfl)
          simp only [Act.put, List.setIfInBounds_toArray, List.set_cons_zero, List.set_cons_succ]
          refine rgn_take (i := 2) (v := ?rv39) rfl (by kernel_rfl) (by kernel_rfl) (by kernel_rfl) (fun _ _ _ h => h) (by rfl) ?rh39 (by assumption) ?rr39
          case rh39 => (intro w hSw; (try dsimp only at hSw); go_simp; try with_reducible rfl)
          simp only [Act.put, List.setIfInBounds_toArray, List.set_cons_zero, List.set_cons_succ]
          refine rgn_take (i := 3) (v := ?rv40) rfl (by kernel_rfl) (by kernel_rfl) (by kernel_rfl) (fun _ _ _ h => h) (by rfl) ?rh40 (by assumption) ?rr40
          case rh40 => (intro w hSw; (try dsimp only at hSw); go_simp; try with_reducible rfl)
          simp only [Act.put, List.setIfInBounds_toArray, List.set_cons_zero, List.set_cons_succ]
          refine rgn_take (i := 4) (v := ?rv41) rfl (by kernel_rfl) (by kernel_rfl) (by kernel_rfl) (fun _ _ _ h => h) (by rfl) ?rh41 (by assumption) ?rr41
          case rh41 => (intro w hSw; (try dsimp only at hSw); go_simp; try with_reducible rfl)
          simp only [Act.put, List.setIfInBounds_toArray, List.set_cons_zero, List.set_cons_succ]
          refine rgn_take (i := 6) (v := ?rv42) rfl (by kernel_rfl) (by kernel_rfl) (by kernel_rfl) (fun _ _ _ h => h) (by rfl) ?rh42 (by assumption) ?rr42
          case rh42 => (intro w hSw; (try dsimp only at hSw); go_simp; try with_reducible rfl)
          simp only [Act.put, List.setIfInBounds_toArray, List.set_cons_zero, List.set_cons_succ]
          refine rgn_take (i := 7) (v := ?rv43) rfl (by kernel_rfl) (by kernel_rfl) (by kernel_rfl) (fun _ _ _ h => h) (by rfl) ?rh43 (by assumption) ?rr43
          case rh43 => (intro w hSw; (try dsimp only at hSw); go_simp; try with_reducible rfl)
          simp only [Act.put, List.setIfInBounds_toArray, List.set_cons_zero, List.set_cons_succ]
          refine rgn_take (i := 8) (v := ?rv44) rfl (by kernel_rfl) (by kernel_rfl) (by kernel_rfl) (fun _ _ _ h => h) (by rfl) ?rh44 (by assumption) ?rr44
          case rh44 => (intro w hSw; (try dsimp only at hSw); go_simp; try with_reducible rfl)
          simp only [Act.put, List.setIfInBounds_toArray, List.set_cons_zero, List.set_cons_succ]
          refine rgn_take (i := 9) (v := ?rv45) rfl (by kernel_rfl) (by kernel_rfl) (by kernel_rfl) (fun _ _ _ h => h) (by rfl) ?rh45 (by assumption) ?rr45
          case rh45 => (intro w hSw; (try dsimp only at hSw); go_simp; try with_reducible rfl)
          simp only [Act.put, List.setIfInBounds_toArray, List.set_cons_zero, List.set_cons_succ]
          refine rgn_call (i := 5) rfl (by kernel_rfl) (fun K hK => ?_)
          go_simp
          go_at_call 85; (with_reducible refine (HG1.out _ g o c HR2.out).mono ?_); rintro y wx ⟨rfl, rfl⟩
          refine hK.out _ _ y3 (fun hS0 => ?_)
          clear hK K
          refine rgn_take (i := 10) (v := ?rv47) rfl (by kernel_rfl) (by kernel_rfl) (by kernel_rfl) (fun _ _ _ h => h) (by rfl) ?rh47 (by assumption) ?rr47
          case rh47 => (intro w hSw; (try dsimp only at hSw); go_simp; try with_reducible rfl)
          simp only [Act.put, List.setIfInBounds_toArray, List.set_cons_zero, List.set_cons_succ]
          refine rgn_take (i := 11) (v := ?rv48) rfl (by kernel_rfl) (by kernel_rfl) (by kernel_rfl) (fun _ _ _ h => h) (by rfl) ?rh48 (by assumption) ?rr48
          case rh48 => (intro w hSw; (try dsimp only at hSw); go_simp; try with_reducible rfl)
          simp only [Act.put, List.setIfInBounds_toArray, List.set_cons_zero, List.set_cons_succ]
          refine rgn_take (i := 12) (v := ?rv49) rfl (by kernel_rfl) (by kernel_rfl) (by kernel_rfl) (fun _ _ _ h => h) (by rfl) ?rh49 (by assumption) ?rr49
          case rh49 => (intro w hSw; (try dsimp only at hSw); go_simp; try with_reducible rfl)
          simp only [Act.put, List.setIfInBounds_toArray, List.set_cons_zero, List.set_cons_succ]
          refine rgn_skip (i := 13) rfl (by kernel_rfl) (by kernel_rfl) (by kernel_rfl) (fun _ _ _ h => h) (by rfl) (by assumption) ?_
          simp only [Act.put, List.setIfInBounds_toArray, List.set_cons_zero, List.set_cons_succ]
          refine rgn_skip (i := 14) rfl (by kernel_rfl) (by kernel_rfl) (by kernel_rfl) (fun _ _ _ h => h) (by rfl) (by assumption) ?_
          simp only [Act.put, List.setIfInBounds_toArray, List.set_cons_zero, List.set_cons_succ]
          refine rgn_skip (i := 15) rfl (by kernel_rfl) (by kernel_rfl) (by kernel_rfl) (fun _ _ _ h => h) (by rfl) (by assumption) ?_
          simp only [Act.put, List.setIfInBounds_toArray, List.set_cons_zero, List.set_cons_succ]
          refine rgn_skip (i := 16) rfl (by kernel_rfl) (by kernel_rfl) (by kernel_rfl) (fun _ _ _ h => h) (by rfl) (by assumption) ?_
          simp only [Act.put, List.setIfInBounds_toArray, List.set_cons_zero, List.set_cons_succ]
          refine rgn_take (i := 17) (v := ?rv54) rfl (by kernel_rfl) (by kernel_rfl) (by kernel_rfl) (fun _ _ _ h => h) (by rfl) ?rh54 (by assumption) ?rr54
          case rh54 => (intro w hSw; (try dsimp only at hSw); go_simp; try with_reducible rfl)
          simp only [Act.put, List.setIfInBounds_toArray, List.set_cons_zero, List.set_cons_succ]
          refine wpAnyH_done (by kernel_rfl) ?_ _
          go_wp2_with fail
          go_roundw
          · refine ⟨k + 1, ⟨true, last, most, frs⟩, C, cc, ks, hm, rfl, rfl, rfl, by push_cast; rfl, HF.out.symm, HKs.out, HS3.out.right⟩
          · simp [intOf]; omega
      · obtain rfl : e = 24 := h9
        have HF : Hid (ldRun D birth f.first (k + 1) = ⟨true, last, most, frs⟩) := by unfold Hid; rw [HSt.out]; unfold ldStep; rw [if_pos (by simp)]
        have HRd2 : Hid (Calls Try.prog 81 #[.pointer (some ⟨d, 0, none⟩), .int .i64 (J : Int)] wr fun e w' => ∃ v, e = .returned (.tuple #[v, .int .i64 24]) ∧ Sat w0 (LdP q d f D (.slice C ks.length cc) ks * F) w') := HRd.out.mono fun e w' ⟨v, he, hs⟩ => ⟨v, he, hs.right.of (by unfold LdP; ac_rfl)⟩
        clear HL HRd HSt
        go_upto_region 9 with (go_at_call 81; (with_reducible refine HRd2.out.mono ?_); rintro e w2 ⟨v, rfl, hs⟩; have HS2 := Lib.hid hs; clear hs)
        refine wp_region_held_drew (S := fun _ => True) (by kernel_rfl) trivial ?_
        intro hS0
        refine rgn_take (i := 0) (v := ?rv55) rfl (by kernel_rfl) (by kernel_rfl) (by kernel_rfl) (fun _ _ _ h => h) (by rfl) ?rh55 (by assumption) ?rr55
        case rh55 => (intro w hSw; (try dsimp only at hSw); go_simp; try with_reducible rfl)
        simp only [Act.put, List.setIfInBounds_toArray, List.set_cons_zero, List.set_cons_succ]
        refine rgn_take (i := 1) (v := ?rv56) rfl (by kernel_rfl) (by kernel_rfl) (by kernel_rfl) (fun _ _ _ h => h) (by rfl) ?rh56 (by assumption) ?rr56
        case rh56 => (intro w hSw; (try dsimp only at hSw); go_simp; try with_reducible rfl)
        simp only [Act.put, List.setIfInBounds_toArray, List.set_cons_zero, List.set_cons_succ]
        refine rgn_take (i := 2) (v := ?rv57) rfl (by kernel_rfl) (by kernel_rfl) (by kernel_rfl) (fun _ _ _ h => h) (by rfl) ?rh57 (by assumption) ?rr57
        case rh57 => (intro w hSw; (try dsimp only at hSw); go_simp; try with_reducible rfl)
        simp only [Act.put, List.setIfInBounds_toArray, List.set_cons_zero, List.set_cons_succ]
        refine rgn_skip (i := 3) rfl (by kernel_rfl) (by kernel_rfl) (by kernel_rfl) (fun _ _ _ h => h) (by rfl) (by assumption) ?_
        simp only [Act.put, List.setIfInBounds_toArray, List.set_cons_zero, List.set_cons_succ]
        refine rgn_skip (i := 4) rfl (by kernel_rfl) (by kernel_rfl) (by kernel_rfl) (fun _ _ _ h => h) (by rfl) (by assumption) ?_
        simp only [Act.put, List.setIfInBounds_toArray, List.set_cons_zero, List.set_cons_succ]
        refine rgn_skip (i := 5) rfl (by kernel_rfl) (by kernel_rfl) (by kernel_rfl) (fun _ _ _ h => h) (by rfl) (by assumption) ?_
        simp only [Act.put, List.setIfInBounds_toArray, List.set_cons_zero, List.set_cons_succ]
        refine rgn_skip (i := 6) rfl (by kernel_rfl) (by kernel_rfl) (by kernel_rfl) (fun _ _ _ h => h) (by rfl) (by assumption) ?_
        simp only [Act.put, List.setIfInBounds_toArray, List.set_cons_zero, List.set_cons_succ]
        refine rgn_skip (i := 7) rfl (by kernel_rfl) (by kernel_rfl) (by kernel_rfl) (fun _ _ _ h => h) (by rfl) (by assumption) ?_
        simp only [Act.put, List.setIfInBounds_toArray, List.set_cons_zero, List.set_cons_succ]
        refine rgn_skip (i := 8) rfl (by kernel_rfl) (by kernel_rfl) (by kernel_rfl) (fun _ _ _ h => h) (by rfl) (by assumption) ?_
        simp only [Act.put, List.setIfInBounds_toArray, List.set_cons_zero, List.set_cons_succ]
        refine rgn_skip (i := 9) rfl (by kernel_rfl) (by kernel_rfl) (by kernel_rfl) (fun _ _ _ h => h) (by rfl) (by assumption) ?_
        simp only [Act.put, List.setIfInBounds_toArray, List.set_cons_zero, List.set_cons_succ]
        refine rgn_skip (i := 10) rfl (by kernel_rfl) (by kernel_rfl) (by kernel_rfl) (fun _ _ _ h => h) (by rfl) (by assumption) ?_
        simp only [Act.put, List.setIfInBounds_toArray, List.set_cons_zero, List.set_cons_succ]
        refine rgn_take (i := 11) (v := ?rv66) rfl (by kernel_rfl) (by kernel_rfl) (by kernel_rfl) (fun _ _ _ h => h) (by rfl) ?rh66 (by assumption) ?rr66
        case rh66 => (intro w hSw; (try dsimp only at hSw); go_simp; try with_reducible rfl)
        simp only [Act.put, List.setIfInBounds_toArray, List.set_cons_zero, List.set_cons_succ]
        refine rgn_take (i := 12) (v := ?rv67) rfl (by kernel_rfl) (by kernel_rfl) (by kernel_rfl) (fun _ _ _ h => h) (by rfl) ?rh67 (by assumption) ?rr67
        case rh67 => (intro w hSw; (try dsimp only at hSw); go_simp; try with_reducible rfl)
        simp only [Act.put, List.setIfInBounds_toArray, List.set_cons_zero, List.set_cons_succ]
        refine rgn_skip (i := 13) rfl (by kernel_rfl) (by kernel_rfl) (by kernel_rfl) (fun _ _ _ h => h) (by rfl) (by assumption) ?_
        simp only [Act.put, List.setIfInBounds_toArray, List.set_cons_zero, List.set_cons_succ]
        refine rgn_skip (i := 14) rfl (by kernel_rfl) (by kernel_rfl) (by kernel_rfl) (fun _ _ _ h => h) (by rfl) (by assumption) ?_
        simp only [Act.put, List.setIfInBounds_toArray, List.set_cons_zero, List.set_cons_succ]
        refine rgn_skip (i := 15) rfl (by kernel_rfl) (by kernel_rfl) (by kernel_rfl) (fun _ _ _ h => h) (by rfl) (by assumption) ?_
        simp only [Act.put, List.setIfInBounds_toArray, List.set_cons_zero, List.set_cons_succ]
        refine rgn_skip (i := 16) rfl (by kernel_rfl) (by kernel_rfl) (by kernel_rfl) (fun _ _ _ h => h) (by rfl) (by assumption) ?_
        simp only [Act.put, List.setIfInBounds_toArray, List.set_cons_zero, List.set_cons_succ]
        refine rgn_take (i := 17) (v := ?rv72) rfl (by kernel_rfl) (by kernel_rfl) (by kernel_rfl) (fun _ _ _ h => h) (by rfl) ?rh72 (by assumption) ?rr72
        case rh72 => (intro w hSw; (try dsimp only at hSw); go_simp; try with_reducible rfl)
        simp only [Act.put, List.setIfInBounds_toArray, List.set_cons_zero, List.set_cons_succ]
        refine wpAnyH_done (by kernel_rfl) ?_ _
        go_wp2_with fail
        go_roundw
        · refine ⟨k + 1, ⟨true, last, most, frs⟩, C, cc, ks, hm, rfl, rfl, rfl, by push_cast; rfl, HF.out.symm, HKs.out, HS2.out.drew⟩
        · simp [intOf]; omega
    · have HK : Hid (k = f.blocks) := by unfold Hid; omega
      have hk2 : ¬ (k : Int) < f.blocks := by omega
      have HF : Hid (Fl.load D f = { f with life := (most + 1) % 18446744073709551616, frames := frs }) := HLd.out ⟨over, last, most, frs⟩ (by rw [← HK.out]; exact HD.out.1.symm)
      obtain ⟨ml, hml⟩ : ∃ m, m = (most + 1) % 18446744073709551616 := ⟨_, rfl⟩
      rw [← hml] at HF
      have hw : IntKind.u64.wrap ((most : Int) + 1) = ml := by rw [IntKind.wrap_u64, hml]; omega
      have HS7 := Lib.hid (HD.out.2.2.of ld_d)
      have c4 := HS7.out.cell 4
      have f4 := HS7.out.frozen 4
      clear hml
      go_upto_region 19 with fail
      have h5 := HS7.out.set 4 (.int .u64 (ml : Int))
      clear c4 f4
      revert h5
      generalize World.setCell _ _ _ = w9
      intro h5
      have HS9 : Hid (Sat w0 (Pt q 110 (flC { f with life := ml, frames := frs } (.slice C ks.length cc)) * (Row 39 1 (.slice C ks.length cc) ks.length (ks.map slOf) * (RoL ks * (Disk d D * F)))) w9) := h5
      clear h5
      go_wp2_with fail
      go_ret
      refine ⟨rfl, ?_⟩
      rw [HF.out]
      exact Sat.flI HKs.out HS9.out
end
end Go.Proofs.Ytjmapbhgjhlefaa
namespace Go.Proofs.Ytjmapbhgjhlefaa
open Go.RowKit
set_option linter.unusedVariables false
set_option maxRecDepth 100000

section
variable {w0 w : World} {F : SP} {d s slot turn : Nat} {D : Dk} {v : Value} {ps : List (Nat × Fl)}
def loadG (D : Dk) (x : Nat × Fl) : Nat × Fl := (x.1, Fl.load D x.2)
/-- The files, the first k of them loaded. -/
def loadK (D : Dk) (ps : List (Nat × Fl)) (k : Nat) : List (Nat × Fl) := (ps.take k).map (loadG D) ++ ps.drop k
theorem loadK_len (k : Nat) (h : k ≤ ps.length) : (loadK D ps k).length = ps.length := by
  unfold loadK
  rw [List.length_append, List.length_map, List.length_take, List.length_drop]
  omega
theorem loadK_at {k : Nat} (h : k < ps.length) (h2 : k < (loadK D ps k).length) : (loadK D ps k)[k]'h2 = ps[k] := by
  have hl : ((ps.take k).map (loadG D)).length = k := by rw [List.length_map, List.length_take]; omega
  have h3 : (loadK D ps k)[k]? = some ps[k] := by
    unfold loadK
    rw [List.getElem?_append_right (by rw [hl]; exact Nat.le_refl _), hl, Nat.sub_self, List.getElem?_drop, Nat.add_zero, List.getElem?_eq_getElem h]
  rw [List.getElem?_eq_getElem h2] at h3
  exact Option.some.inj h3
theorem loadK_set {k : Nat} (h : k < ps.length) : (loadK D ps k).set k (loadG D ps[k]) = loadK D ps (k + 1) := by
  have hl : ((ps.take k).map (loadG D)).length = k := by rw [List.length_map, List.length_take]; omega
  unfold loadK
  rw [List.set_append_right _ _ (by rw [hl]; exact Nat.le_refl _), hl, Nat.sub_self, List.take_succ_eq_append_getElem h, List.map_append, List.append_assoc, List.drop_eq_getElem_cons h]
  rfl
theorem loadK_all {k : Nat} (h : k = ps.length) : (loadK D ps k).map (·.2) = (ps.map (·.2)).map (Fl.load D) := by
  subst h
  unfold loadK
  rw [List.take_length, List.drop_length, List.append_nil, List.map_map, List.map_map]
  rfl
def OpenX (w0 : World) (F : SP) (d : Nat) (D : Dk) (e : Ending) (w' : World) : Prop :=
  ∃ p, e = .returned (.tuple #[ptrP p, .int .i64 (openX D).2]) ∧ Sat w0 (OptP d p (openX D).1 * (Disk d D * F)) w'
theorem openX_none (h : (readX D).2 = 0) (h2 : (readX D).1 = none) : openX D = (none, 30) := by
  unfold openX
  rw [h, if_neg (by simp), h2]
theorem openX_some {S : Spc} (h : (readX D).2 = 0) (h2 : (readX D).1 = some S) : openX D = (some { S with files := S.files.map (Fl.load D) }, 0) := by
  unfold openX
  rw [h, if_neg (by simp), h2]
set_option maxHeartbeats 4000000 in
theorem open_any (h : Sat w0 (Disk d D * F) w) (h2 : 2 ≤ D.cells.length) (hN : D.cells.length ≤ 65536) :
    Calls Try.prog 16 #[.pointer (some ⟨d, 0, none⟩)] w (OpenX w0 F d D) := by
  have HRd := Lib.hid (readS_any h h2 hN)
  have HN := Lib.hid hN
  unfold RdX at HRd
  clear h h2 hN
  rcases readX_codes D with hc | hc
  · rw [hc] at HRd
    have HNo : Hid ((readX D).1 = none → openX D = (none, 30)) := openX_none hc
    have HYes : Hid (∀ S, (readX D).1 = some S → openX D = (some { S with files := S.files.map (Fl.load D) }, 0)) := fun S => openX_some hc
    have HOk : Hid (∀ S, (readX D).1 = some S → SpcOk D.cells.length S) := fun S h => readX_ok h
    have HOff : Hid (D.off = false) := by
      unfold Hid
      cases ho : D.off with
      | false => rfl
      | true => unfold readX at hc; rw [if_pos ho] at hc; cases hc
    clear hc
    obtain ⟨o, ho⟩ : ∃ o, o = (readX D).1 := ⟨_, rfl⟩
    rw [← ho] at HRd HNo HYes HOk
    clear ho
    cases o with
    | none =>
      have HX : Hid (openX D = (none, 30)) := HNo.out rfl
      go_enter Try.func16, Try.ntmps16
      go_wp2_with (go_at_call 55; (with_reducible refine HRd.out.mono ?_); rintro e w2 ⟨p, rfl, hs⟩; obtain rfl := opt_none hs; unfold ptrP; have HS2 := Lib.hid hs; clear hs)
      go_ret2
      exact ⟨none, by rw [HX.out]; rfl, by rw [HX.out]; exact HS2.out⟩
    | some S =>
      have HX : Hid (openX D = (some { S with files := S.files.map (Fl.load D) }, 0)) := HYes.out S rfl
      have hok := HOk.out S rfl
      have HOk2 := Lib.hid hok
      have hcount := hok.count
      clear HNo HYes HOk hok
      go_enter Try.func16, Try.ntmps16
      go_upto_region 2 with (go_at_call 55; (with_reducible refine HRd.out.mono ?_); rintro e w2 ⟨p, rfl, hs⟩; obtain ⟨s, rfl⟩ := opt_some hs; unfold ptrP; obtain ⟨v, ps, hps, hs2⟩ := hs.space; have HS2 := Lib.hid hs2; have HPs := Lib.hid hps; clear hs hs2 hps)
      have hpl : ps.length ≤ 24 := by have := congrArg List.length HPs.out; rw [List.length_map] at this; omega
      obtain ⟨A, c, rfl, h1, h2, h3, h4, h5, h6, h7⟩ := HS2.out.spaceR
      clear h3 h4 h5 h6
      go_upto_region 7 with fail
      go_loopw [26] (fun iv wr => ∃ k : Nat, k ≤ ps.length ∧ iv = .int .i64 (k : Int) ∧ Hid (Sat w0 (SpaceC s d S.slot S.turn (.slice A ps.length c) (loadK D ps k) * (Disk d D * F)) wr)) (fun iv _ => ps.length - (intOf iv).toNat)
      case atStart => exact ⟨0, by omega, rfl, by have h9 : loadK D ps 0 = ps := (by simp [loadK]); rw [h9]; first | exact HS2.out | exact HS2.out.drew⟩
      case round =>
        obtain ⟨k, hk, rfl, HD⟩ := hrel
        by_cases hlt : k < ps.length
        · have hkl : k < (loadK D ps k).length := by rw [loadK_len k hk]; exact hlt
          have hat := loadK_at (D := D) hlt hkl
          have hk2 : (k : Int) < ps.length := by omega
          have hm : k + 1 ≤ ps.length := hlt
          obtain ⟨A2, c2, e9, _, _, hR2, _⟩ := HD.out.spaceR
          rw [loadK_len k hk] at e9
          injection e9 with e9 _ e8
          subst e9; subst e8
          obtain ⟨b, o, rfl, hcl⟩ := ptr_get hR2 hkl
          rw [hat] at hcl
          have hmem : ps[k].2 ∈ S.files := by rw [← HPs.out]; exact List.mem_map_of_mem (List.getElem_mem hlt)
          obtain ⟨ok1, ok2⟩ := HOk2.out.bare _ hmem
          obtain ⟨ok3, ok4, ok5, ok6⟩ := HOk2.out.each _ hmem
          have hsp := HD.out.of (space_at hkl)
          rw [hat] at hsp
          have HL := Lib.hid (load_any (q := ps[k].1) (f := ps[k].2) (d := d) (D := D) (w0 := w0) (w := wr) (hsp.up5.up2) ok1 HOff.out ok6 HN.out ok3.2.2.2)
          have HSet := Lib.hid (space_set (s := s) (d := d) (slot := S.slot) (turn := S.turn) (v := .slice (some ⟨b, o, none⟩) ps.length c) (F := Disk d D * F) hkl (loadG D ps[k]) (by rw [hat]; rfl))
          rw [loadK_set hlt] at HSet
          dsimp only [loadG] at HSet
          clear ok1 ok2 ok3 ok4 ok5 ok6 hmem hsp hR2 hat
          generalize ps[k].1 = q at *
          generalize ps[k].2 = f at *
          go_wp2_with (go_at_call 57; (with_reducible refine HL.out.mono ?_); rintro e w3 ⟨rfl, hs⟩; have HS3 := Lib.hid hs; clear hs)
          go_roundw
          · refine ⟨k + 1, hm, by push_cast; rfl, ?_⟩
            have h9 := HSet.out
            exact HS3.out.of (by rw [h9]; ac_rfl)
          · simp [intOf]; omega
        · have HK : Hid (k = ps.length) := by unfold Hid; omega
          have hk2 : ¬ (k : Int) < ps.length := by omega
          go_wp2_with fail
          go_ret2
          refine ⟨some s, by rw [HX.out]; rfl, ?_⟩
          rw [HX.out]
          exact Sat.spaceI (S := { S with files := S.files.map (Fl.load D) }) (by rw [loadK_all HK.out, HPs.out]) HD.out
  · have HX : Hid (openX D = (none, 21)) := by unfold Hid openX; rw [if_pos hc]
    rw [hc, readX_off hc] at HRd
    clear hc
    go_enter Try.func16, Try.ntmps16
    go_wp2_with (go_at_call 55; (with_reducible refine HRd.out.mono ?_); rintro e w2 ⟨p, rfl, hs⟩; obtain rfl := opt_none hs; unfold ptrP; have HS2 := Lib.hid hs; clear hs)
    go_ret2
    exact ⟨none, by rw [HX.out]; rfl, by rw [HX.out]; exact HS2.out⟩
end
end Go.Proofs.Ytjmapbhgjhlefaa
