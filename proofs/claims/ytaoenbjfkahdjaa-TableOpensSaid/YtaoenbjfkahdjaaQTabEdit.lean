/- Bytes with an edit. (Written by gen_tabedit.py.) -/
import Derived.Deep.CutBlock
import Derived.Test.YtaoenbjfkahdjaaQREnt
import Derived.Test.YtaoenbjfkahdjaaQTabSpoilt
namespace Go.Proofs.Ytaoenbjfkahdjaa
open Go.RowKit
set_option linter.unusedVariables false
set_option maxRecDepth 100000

/-- Some bytes, in memory of their own. -/
def Some7 (n : Nat) (w : World) (x : Ending) (w' : World) : Prop := ∃ (B : Option Addr) (q : List UInt8) (c : Nat), x = .returned (.slice B q.length c) ∧ q.length ≤ n ∧ q.length ≤ c ∧ c ≤ maxLen ∧ Rd w' B q ∧ Chg No w w'
theorem sum7_any (A : Option Addr) (c : Nat) (l : List UInt8) (w : World) (h : Rd w A l) (hl : l.length ≤ 2000000) :
    Calls Try.prog 84 #[.slice A l.length c] w (Some7 4 w) := by
  have hs := sumB_lt l
  have HS := Lib.hid (rsum1_any A c l w h (by omega))
  obtain ⟨s, hse⟩ : ∃ s, sumB l = s := ⟨_, rfl⟩
  rw [hse] at hs HS
  have hw : IntKind.u64.wrap (s : Int) = s := by rw [IntKind.wrap_u64]; omega
  have HP := Lib.hid (rput1_any s 4 (by omega) (by omega) (by omega) w w _ (Sat.start w))
  clear h hse hs
  go_enter Try.func84, Try.ntmps84
  go_wp2_with (first
    | (go_at_call 77; (with_reducible refine HS.out.mono ?_); rintro x w1 ⟨rfl, rfl⟩)
    | (go_at_call 99; refine HP.out.mono ?_; rintro x w2 ⟨B, d, rfl, q1, q2, q3⟩; have H1 := Lib.hid q1; have H2 := Lib.hid q2; have H3 := Lib.hid q3; clear q1 q2 q3))
  go_ret
  exact ⟨B, putB s 4, d, rfl, by rw [putB_len]; omega, H1.out, H2.out, H3.out.row_rdK, H3.out.chg⟩
theorem Sat.litRow7 {w0 w : World} {F : SP} (h : Sat w0 F w) (e : TypeId) (size : Nat) : Sat w0 (Row e size (.slice (some ⟨w.heap.size, 0, none⟩) 0 0) 0 [] * F) (w.alloc (.cells #[] e)) := by
  have h2 := (h.allocPt e #[]).row_pt (n := 0) (cap := 0) (size := size) (Nat.le_refl _) (Nat.zero_le _) (by simp)
  simpa using h2
theorem pt_rd1 {w0 w : World} {F : SP} {B : Nat} {x : UInt8} (h : Sat w0 (Pt B 5 #[.int .u8 (x.toNat : Int)] * F) w) : Rd w (some ⟨B, 0, none⟩) [x] :=
  RdV.of_at h.at fun j hj => by
    have : j = 0 := by simp at hj; omega
    subst this
    rfl
theorem twin_n (A : Option Addr) (c : Nat) (l : List UInt8) (n : Nat) (hn : n = l.length) (w : World) (h : Rd w A l) (hl : l.length ≤ 140737488355328) :
    Calls Try.prog 78 #[.slice A n c] w (Twinned l w) := by
  subst hn
  exact twin_any A c l w h hl
theorem sum7_n (A : Option Addr) (c : Nat) (l : List UInt8) (n : Nat) (hn : n = l.length) (w : World) (h : Rd w A l) (hl : l.length ≤ 2000000) :
    Calls Try.prog 84 #[.slice A n c] w (Some7 4 w) := by
  subst hn
  exact sum7_any A c l w h hl
set_option maxRecDepth 1000000 in
set_option maxHeartbeats 8000000 in
theorem edited_any (A : Option Addr) (c : Nat) (b : List UInt8) (what at_ : Int) (by_ : UInt8) (sm : Bool) (w : World) (h : Rd w A b) (hbl : b.length ≤ 2000000) :
    Calls Try.prog 35 #[.slice A b.length c, .agg #[.int .i64 what, .int .i64 at_, .int .u8 (by_.toNat : Int), .bool sm]] w (Some7 (b.length + 5) w) := by
  have HR := Lib.hid h
  clear h
  go_enter Try.func35, Try.ntmps35
  have hs0 := (Sat.start w).allocPt 70 #[.int .i64 what, .int .i64 at_, .int .u8 (by_.toNat : Int), .bool sm]
  revert hs0
  go_upto_region 1 with fail
  intro hs0
  have HS0 := Lib.hid hs0
  clear hs0
  go_upto_region 2 with (go_at_call 78; refine (twin_any A c b _ (HR.out.alloc _) (by omega)).mono ?_; rintro e w2 ⟨v2, rfl, h2, k2⟩; have hs := HS0.out.gotRow k2 h2; obtain ⟨A2, c2, hv2, h4, h5⟩ := hs.row_sl; subst hv2; have HS2 := Lib.hid hs; have H4 := Lib.hid h4; have H5 := Lib.hid h5; clear hs h2 k2 h4 h5)
  have hc2 : b.length ≤ c2 := H4.out
  by_cases hb5 : b.length < 5
  · have hi5 : (b.length : Int) < 5 := by omega
    go_wp2_with fail
    go_ret
    exact ⟨A2, b, c2, rfl, by omega, H4.out, H5.out, HS2.out.row_rdK, HS2.out.chg⟩
  · have hi5 : ¬ (b.length : Int) < 5 := by omega
    obtain ⟨m, hm9⟩ : ∃ m, m = b.length - 4 := ⟨_, rfl⟩
    have hsub : (b.length : Int) - 4 = (m : Int) := by omega
    have hmb : b.length = m + 4 := by omega
    have hwm : IntKind.i64.wrap (m : Int) = m := by rw [IntKind.wrap_i64]; omega
    have hm0 : (0 : Int) ≤ m := by omega
    have hmci : (m : Int) ≤ c2 := by omega
    have hmbi : (m : Int) ≤ b.length := by omega
    have hmc : ¬ c2 = m := by omega
    obtain ⟨k, hk⟩ : ∃ k, k = wi what 3 := ⟨_, rfl⟩
    have hk3 : (k : Int) ≤ 3 := by rw [hk]; exact wi_le _ _ (by omega)
    obtain ⟨p, hp⟩ : ∃ p, p = wi at_ ((m : Int) - 1) := ⟨_, rfl⟩
    have hpm : (p : Int) ≤ (m : Int) - 1 := by rw [hp]; exact wi_le _ _ (by omega)
    have HK := Lib.hid hk; have HPp := Lib.hid hp
    have hlen : (b.take m).length = m := by rw [List.length_take]; omega
    have HLn := Lib.hid hlen
    have HMb := Lib.hid hmb
    have d0 := HS2.out.up2.cell 0; have d1 := HS2.out.up2.cell 1; have d2 := HS2.out.up2.cell 2; have d3 := HS2.out.up2.cell 3
    have HRk : Hid (Rd w2 A2 (b.take m)) := Rd.take HS2.out.row_rdK m
    clear hk hp hlen hm9 hmb
    have HW1 := Lib.hid (within0 at_ ((m : Int) - 1) w2 (by omega) (by omega))
    have HW2 := Lib.hid (within0 what 3 w2 (by omega) (by omega))
    rw [← HPp.out] at HW1
    rw [← HK.out] at HW2
    go_upto_region 5 with fail
    go_upto_region 6 with (go_at_call 31; (with_reducible refine HW1.out.mono ?_); rintro x wx ⟨rfl, rfl⟩)
    go_upto_block 0 with (go_at_call 31; (with_reducible refine HW2.out.mono ?_); rintro x wx ⟨rfl, rfl⟩)
    go_cut [6] (fun bv wx => ∃ (BA : Option Addr) (bl : List UInt8) (bc : Nat), bv = .slice BA bl.length bc ∧ Hid (bl.length ≤ m + 1 ∧ Rd wx BA bl ∧ (∃ cl : List UInt8, cl.length = b.length ∧ Rd wx A2 cl) ∧ Chg No w wx ∧ wx.cell? ⟨w.heap.size, 3, none⟩ = some (.bool sm)))
    case first =>
      by_cases k1 : k = 1
      · have hk1 : ((k : Int) == 1) = true := by rw [beq_iff_eq]; omega
        have hpl : p < b.length := by omega
        obtain ⟨g, rfl, hcell, hfr, hset⟩ := HS2.out.row_set hpl
        rw [List.getElem?_map, List.getElem?_eq_getElem hpl] at hcell
        replace hcell : w2.cell? ⟨g, p, none⟩ = some (.int .u8 (b[p].toNat : Int)) := hcell
        have hp0 : (0 : Int) ≤ p := by omega
        have hpi : (p : Int) < m := by omega
        have hb3 : bv (b[p] ^^^ by_) = .int .u8 (bits .xor .u8 (b[p].toNat : Int) (by_.toNat : Int)) := by
          rw [u8_xor_nat _ _ b[p].toNat_lt by_.toNat_lt]
          unfold bv
          rw [UInt8.toNat_xor]
        have HSet := Lib.hid (hset (bv (b[p] ^^^ by_)))
        have HB3 := Lib.hid hb3
        clear k1 hset hb3
        go_upto_region 8 with fail
        go_region
        all_goals
          (try go_wp2_with fail)
          go_meet
          have hs9 : Sat w _ _ := HSet.out
          rw [HB3.out] at hs9
          have e9 : (b.map bv).set p (.int .u8 (bits .xor .u8 (b[p].toNat : Int) (by_.toNat : Int))) = (b.set p (b[p] ^^^ by_)).map bv := by rw [List.map_set, HB3.out]
          rw [e9] at hs9
          replace hs9 := hs9.drew
          refine ⟨some ⟨g, 0, none⟩, (b.set p (b[p] ^^^ by_)).take m, c2, ?_, ?_, ?_, ⟨b.set p (b[p] ^^^ by_), by rw [List.length_set], ?_⟩, ?_, ?_⟩
          · rw [List.length_take, List.length_set, Nat.min_eq_left (by omega)]
          · rw [List.length_take, List.length_set, Nat.min_eq_left (by omega)]; omega
          · exact Rd.take hs9.row_rdK m
          · exact hs9.row_rdK
          · exact hs9.chg
          · exact hs9.up2.cell 3
      · by_cases k2 : k = 2
        · have hk1 : ((k : Int) == 1) = false := by rw [beq_eq_false_iff_ne]; omega
          have hk2 : ((k : Int) == 2) = true := by rw [beq_iff_eq]; omega
          clear k1 k2
          go_upto_region 10 with fail
          have HSe := Lib.hid (HS2.out.litRow7 5 1).drew
          have HSr : Hid (∀ W, Rd W A2 b → Rd W A2 (b.take p)) := fun W h => Rd.take h p
          obtain ⟨q1, hq1⟩ : ∃ q, q = b.take p := ⟨_, rfl⟩
          have hq1l : q1.length = p := by rw [hq1, List.length_take]; omega
          obtain ⟨q2, hq2⟩ : ∃ q, q = ((b.take m).drop (p + 1)) := ⟨_, rfl⟩
          have hq2l : q2.length = m - (p + 1) := by rw [hq2, List.length_drop, HLn.out]
          have hpc : ¬ c2 = p + 1 := by omega
          have HSd : Hid (∀ W, Rd W A2 b → Rd W (A2.map (·.add (p + 1))) q2) := fun W hW => by
            have h9 := Rd.drop (k := p + 1) (cap := c2) (Rd.take hW m) (by rw [HLn.out]; omega) (by rw [HLn.out]; omega)
            rw [if_neg hpc] at h9
            rw [hq2]
            exact h9
          rw [← hq1] at HSr
          have Hq1l := Lib.hid hq1l; have Hq2l := Lib.hid hq2l
          have e1 : (p : Int) + 1 = ((p + 1 : Nat) : Int) := by omega
          have e2 : IntKind.i64.wrap ((p + 1 : Nat) : Int) = ((p + 1 : Nat) : Int) := by rw [IntKind.wrap_i64]; omega
          have e3 : (0 : Int) ≤ ((p + 1 : Nat) : Int) := by omega
          have e4 : ((p + 1 : Nat) : Int) ≤ m := by omega
          have e5 : (0 : Int) ≤ p := by omega
          have e6 : (p : Int) ≤ m := by omega
          have e7 : (p : Int) ≤ c2 := by omega
          obtain ⟨q3, hq9⟩ : ∃ q3, q3 = q1 ++ q2 := ⟨_, rfl⟩
          have Hq9 := Lib.hid hq9
          have hq3 : Hid (q3.length ≤ 140737488355328) := by unfold Hid; rw [hq9, List.length_append, hq1l, hq2l]; omega
          have hq4 : Hid (q3.length ≤ m + 1) := by unfold Hid; rw [hq9, List.length_append, hq1l, hq2l]; omega
          have hq5 : Hid (q1.length ≤ 140737488355328) := by unfold Hid; rw [hq1l]; omega
          clear hq1 hq2 hq1l hq2l hq9
          generalize p + 1 = pp at *
          go_region_law (first
            | (refine step_appB rfl (.tmp 43) (.tmp 46) rfl (some ⟨w2.heap.size, 0, none⟩) 0 [] rfl HSe.out A2 c2 q1 (by rw [Hq1l.out]; rfl) (HSr.out _ HSe.out.up2.row_rdK) q1 rfl hq5.out ?_; intro A47 c47 w47 hs; have HS47 := Lib.hid hs; clear hs)
            | (refine step_appB rfl (.tmp 47) (.tmp 51) rfl A47 c47 q1 rfl HS47.out (A2.map (·.add pp)) (c2 - pp) q2 (by rw [Hq2l.out]; rfl) (HSd.out _ HS47.out.up2.row_rdK) q3 Hq9.out hq3.out ?_; intro A52 c52 w52 hs; have HS52 := Lib.hid hs; clear hs))
          all_goals
            (try go_simp)
            (try go_wp2_with fail)
            go_meet
            exact ⟨A52, q3, c52, rfl, hq4.out, HS52.out.row_rdK, ⟨b, rfl, HS52.out.up2.row_rdK⟩, HS52.out.chg, HS52.out.up3.cell 3⟩
        · by_cases k3 : k = 3
          · have hk1 : ((k : Int) == 1) = false := by rw [beq_eq_false_iff_ne]; omega
            have hk2 : ((k : Int) == 2) = false := by rw [beq_eq_false_iff_ne]; omega
            have hk3 : ((k : Int) == 3) = true := by rw [beq_iff_eq]; omega
            clear k1 k2 k3
            go_upto_region 12 with fail
            have HSr : Hid (∀ W, Rd W A2 b → Rd W A2 (b.take p)) := fun W h => Rd.take h p
            obtain ⟨q1, hq1⟩ : ∃ q, q = b.take p := ⟨_, rfl⟩
            have hq1l : q1.length = p := by rw [hq1, List.length_take]; omega
            obtain ⟨q2, hq2⟩ : ∃ q, q = ((b.take m).drop p) := ⟨_, rfl⟩
            have hq2l : q2.length = m - p := by rw [hq2, List.length_drop, HLn.out]
            have hpc : ¬ c2 = p := by omega
            have HSd : Hid (∀ W, Rd W A2 b → Rd W (A2.map (·.add p)) q2) := fun W hW => by
              have h9 := Rd.drop (k := p) (cap := c2) (Rd.take hW m) (by rw [HLn.out]; omega) (by rw [HLn.out]; omega)
              rw [if_neg hpc] at h9
              rw [hq2]
              exact h9
            rw [← hq1] at HSr
            have Hq1l := Lib.hid hq1l; have Hq2l := Lib.hid hq2l
            have e5 : (0 : Int) ≤ p := by omega
            have e6 : (p : Int) ≤ m := by omega
            have e7 : (p : Int) ≤ c2 := by omega
            obtain ⟨q8, hq8⟩ : ∃ q, q = q1 ++ [by_] := ⟨_, rfl⟩
            obtain ⟨q9, hq9⟩ : ∃ q, q = q8 ++ q2 := ⟨_, rfl⟩
            have Hq8 := Lib.hid hq8; have Hq9 := Lib.hid hq9
            have hq5 : Hid (q1.length ≤ 140737488355328) := by unfold Hid; omega
            have hl8 : q8.length = p + 1 := by rw [hq8, List.length_append, hq1l]; rfl
            have hq8l : Hid (q8.length ≤ 140737488355328) := by unfold Hid; omega
            have hl9 : q9.length = m + 1 := by rw [hq9, List.length_append, hl8, hq2l]; omega
            have hq9l : Hid (q9.length ≤ 140737488355328) := by unfold Hid; omega
            have hq9m : Hid (q9.length ≤ m + 1) := by unfold Hid; omega
            clear hq1 hq2 hq1l hq2l hq8 hq9 hl8 hl9
            obtain ⟨wd, hwd⟩ : ∃ wd, wd = w2.drew := ⟨_, rfl⟩
            have HS : Hid (Sat w (Row 5 1 (.slice A2 b.length c2) b.length (b.map bv) * (Pt w.heap.size 70 #[.int .i64 what, .int .i64 at_, .int .u8 (by_.toNat : Int), .bool sm] * Emp)) wd) := by rw [hwd]; exact HS2.out.drew
            have HC : Hid (wd.cell? ⟨w.heap.size, 2, none⟩ = some (.int .u8 (by_.toNat : Int))) := HS.out.up2.cell 2
            refine wp_region_held_drew (S := fun w' => w'.cell? ⟨w.heap.size, 2, none⟩ = some (.int .u8 (by_.toNat : Int))) (by kernel_rfl) (by rw [← hwd]; exact HC.out) ?_
            intro hS0
            rw [← hwd] at hS0 ⊢
            clear hwd
            refine rgn_take (i := 1) (v := ?rv1) rfl (by kernel_rfl) (by kernel_rfl) (by kernel_rfl) (fun _ _ _ h => h) (by rfl) ?rh1 (by assumption) ?rr1
            case rh1 => (intro w hSw; (try dsimp only at hSw); go_simp; try with_reducible rfl)
            simp only [Act.put, List.setIfInBounds_toArray, List.set_cons_zero, List.set_cons_succ]
            refine rgn_take (i := 2) (v := ?rv2) rfl (by kernel_rfl) (by kernel_rfl) (by kernel_rfl) (fun _ _ _ h => h) (by rfl) ?rh2 (by assumption) ?rr2
            case rh2 => (intro w hSw; (try dsimp only at hSw); go_simp; try with_reducible rfl)
            simp only [Act.put, List.setIfInBounds_toArray, List.set_cons_zero, List.set_cons_succ]
            refine rgn_take (i := 3) (v := ?rv3) rfl (by kernel_rfl) (by kernel_rfl) (by kernel_rfl) (fun _ _ _ h => h) (by rfl) ?rh3 (by assumption) ?rr3
            case rh3 => (intro w hSw; (try dsimp only at hSw); go_simp; try with_reducible rfl)
            simp only [Act.put, List.setIfInBounds_toArray, List.set_cons_zero, List.set_cons_succ]
            refine rgn_take (i := 5) (v := ?rv4) rfl (by kernel_rfl) (by kernel_rfl) (by kernel_rfl) (fun _ _ _ h => h) (by rfl) ?rh4 (by assumption) ?rr4
            case rh4 => (intro w hSw; (try dsimp only at hSw); go_simp; try with_reducible rfl)
            simp only [Act.put, List.setIfInBounds_toArray, List.set_cons_zero, List.set_cons_succ]
            refine rgn_take (i := 6) (v := ?rv5) rfl (by kernel_rfl) (by kernel_rfl) (by kernel_rfl) (fun _ _ _ h => h) (by rfl) ?rh5 (by assumption) ?rr5
            case rh5 => (intro w hSw; (try dsimp only at hSw); go_simp; try with_reducible rfl)
            simp only [Act.put, List.setIfInBounds_toArray, List.set_cons_zero, List.set_cons_succ]
            refine rgn_take (i := 9) (v := ?rv6) rfl (by kernel_rfl) (by kernel_rfl) (by kernel_rfl) (fun _ _ _ h => h) (by rfl) ?rh6 (by assumption) ?rr6
            case rh6 => (intro w hSw; (try dsimp only at hSw); go_simp; try with_reducible rfl)
            simp only [Act.put, List.setIfInBounds_toArray, List.set_cons_zero, List.set_cons_succ]
            refine rgn_take (i := 10) (v := ?rv7) rfl (by kernel_rfl) (by kernel_rfl) (by kernel_rfl) (fun _ _ _ h => h) (by rfl) ?rh7 (by assumption) ?rr7
            case rh7 => (intro w hSw; (try dsimp only at hSw); go_simp; try with_reducible rfl)
            simp only [Act.put, List.setIfInBounds_toArray, List.set_cons_zero, List.set_cons_succ]
            refine rgn_take (i := 11) (v := ?rv8) rfl (by kernel_rfl) (by kernel_rfl) (by kernel_rfl) (fun _ _ _ h => h) (by rfl) ?rh8 (by assumption) ?rr8
            case rh8 => (intro w hSw; (try dsimp only at hSw); go_simp; try with_reducible rfl)
            simp only [Act.put, List.setIfInBounds_toArray, List.set_cons_zero, List.set_cons_succ]
            refine rgn_both (i := 0) (j := 7) rfl rfl (by kernel_rfl) (fun K hK => ?_) (fun K hK => ?_)
            ·
              go_simp
              have hs := HS.out.litRow7 5 1
              revert hs
              generalize World.alloc wd _ = w_0
              generalize wd.heap.size = B0
              intro hs
              replace HS : Hid (Sat w (Row 5 1 (.slice (some ⟨B0, 0, none⟩) 0 0) 0 [] * (Row 5 1 (.slice A2 b.length c2) b.length (b.map bv) * (Pt w.heap.size 70 #[.int .i64 what, .int .i64 at_, .int .u8 (by_.toNat : Int), .bool sm] * Emp))) w_0) := hs
              clear hs
              replace HC : Hid (w_0.cell? ⟨w.heap.size, 2, none⟩ = some (.int .u8 (by_.toNat : Int))) := HS.out.up3.cell 2
              refine hK.out _ _ HC.out (fun hS0 => ?_)
              clear hK K
              refine rgn_both (i := 4) (j := 7) rfl rfl (by kernel_rfl) (fun K hK => ?_) (fun K hK => ?_)
              ·
                refine step_appB rfl (.tmp 55) (.tmp 58) rfl (some ⟨B0, 0, none⟩) 0 [] rfl HS.out A2 c2 q1 (by rw [Hq1l.out]; rfl) (HSr.out _ HS.out.up2.row_rdK) q1 rfl hq5.out ?_
                intro A4 c4 w_4 hs
                replace HS : Hid (Sat w (Row 5 1 (.slice A4 q1.length c4) q1.length (q1.map bv) * (Row 5 1 (.slice A2 b.length c2) b.length (b.map bv) * (Pt w.heap.size 70 #[.int .i64 what, .int .i64 at_, .int .u8 (by_.toNat : Int), .bool sm] * Emp))) w_4) := hs
                clear hs
                replace HC : Hid (w_4.cell? ⟨w.heap.size, 2, none⟩ = some (.int .u8 (by_.toNat : Int))) := HS.out.up3.cell 2
                refine hK.out _ _ HC.out (fun hS0 => ?_)
                clear hK K
                try simp only [Act.put, List.setIfInBounds_toArray, List.set_cons_zero, List.set_cons_succ]
                refine rgn_call (i := 7) rfl (by kernel_rfl) (fun K hK => ?_)
                go_simp
                have hs := HS.out.allocPt 5 #[.int .u8 (by_.toNat : Int)]
                revert hs
                generalize World.alloc w_4 _ = w_7
                generalize w_4.heap.size = B7
                intro hs
                replace HS : Hid (Sat w (Row 5 1 (.slice A4 q1.length c4) q1.length (q1.map bv) * (Pt B7 5 #[.int .u8 (by_.toNat : Int)] * (Row 5 1 (.slice A2 b.length c2) b.length (b.map bv) * (Pt w.heap.size 70 #[.int .i64 what, .int .i64 at_, .int .u8 (by_.toNat : Int), .bool sm] * Emp)))) w_7) := hs.up2
                clear hs
                replace HC : Hid (w_7.cell? ⟨w.heap.size, 2, none⟩ = some (.int .u8 (by_.toNat : Int))) := HS.out.up4.cell 2
                refine hK.out _ _ HC.out (fun hS0 => ?_)
                clear hK K
                refine rgn_call (i := 8) rfl (by kernel_rfl) (fun K hK => ?_)
                refine step_appB rfl (.tmp 59) (.tmp 62) rfl A4 c4 q1 rfl HS.out (some ⟨B7, 0, none⟩) 1 [by_] rfl (pt_rd1 HS.out.up2) q8 Hq8.out hq8l.out ?_
                intro A8 c8 w_8 hs
                replace HS : Hid (Sat w (Row 5 1 (.slice A8 q8.length c8) q8.length (q8.map bv) * (Pt B7 5 #[.int .u8 (by_.toNat : Int)] * (Row 5 1 (.slice A2 b.length c2) b.length (b.map bv) * (Pt w.heap.size 70 #[.int .i64 what, .int .i64 at_, .int .u8 (by_.toNat : Int), .bool sm] * Emp)))) w_8) := hs
                clear hs
                replace HC : Hid (w_8.cell? ⟨w.heap.size, 2, none⟩ = some (.int .u8 (by_.toNat : Int))) := HS.out.up4.cell 2
                refine hK.out _ _ HC.out (fun hS0 => ?_)
                clear hK K
                try simp only [Act.put, List.setIfInBounds_toArray, List.set_cons_zero, List.set_cons_succ]
                refine rgn_call (i := 12) rfl (by kernel_rfl) (fun K hK => ?_)
                refine step_appB rfl (.tmp 63) (.tmp 66) rfl A8 c8 q8 rfl HS.out (A2.map (·.add p)) (c2 - p) q2 (by rw [Hq2l.out]; rfl) (HSd.out _ HS.out.up3.row_rdK) q9 Hq9.out hq9l.out ?_
                intro A12 c12 w_12 hs
                replace HS : Hid (Sat w (Row 5 1 (.slice A12 q9.length c12) q9.length (q9.map bv) * (Pt B7 5 #[.int .u8 (by_.toNat : Int)] * (Row 5 1 (.slice A2 b.length c2) b.length (b.map bv) * (Pt w.heap.size 70 #[.int .i64 what, .int .i64 at_, .int .u8 (by_.toNat : Int), .bool sm] * Emp)))) w_12) := hs
                clear hs
                replace HC : Hid (w_12.cell? ⟨w.heap.size, 2, none⟩ = some (.int .u8 (by_.toNat : Int))) := HS.out.up4.cell 2
                refine hK.out _ _ HC.out (fun hS0 => ?_)
                clear hK K
                try simp only [Act.put, List.setIfInBounds_toArray, List.set_cons_zero, List.set_cons_succ]
                refine rgn_take (i := 13) (v := ?rv9) rfl (by kernel_rfl) (by kernel_rfl) (by kernel_rfl) (fun _ _ _ h => h) (by rfl) ?rh9 (by assumption) ?rr9
                case rh9 => (intro w hSw; (try dsimp only at hSw); go_simp; try with_reducible rfl)
                simp only [Act.put, List.setIfInBounds_toArray, List.set_cons_zero, List.set_cons_succ]
                refine wpAnyH_done (by kernel_rfl) ?_ _
                (try go_simp)
                (try go_wp2_with fail)
                go_meet
                exact ⟨A12, q9, c12, rfl, hq9m.out, HS.out.row_rdK, ⟨b, rfl, HS.out.up3.row_rdK⟩, HS.out.chg, HS.out.up4.cell 3⟩
              ·
                go_simp
                have hs := HS.out.allocPt 5 #[.int .u8 (by_.toNat : Int)]
                revert hs
                generalize World.alloc w_0 _ = w_7
                generalize w_0.heap.size = B7
                intro hs
                replace HS : Hid (Sat w (Row 5 1 (.slice (some ⟨B0, 0, none⟩) 0 0) 0 [] * (Pt B7 5 #[.int .u8 (by_.toNat : Int)] * (Row 5 1 (.slice A2 b.length c2) b.length (b.map bv) * (Pt w.heap.size 70 #[.int .i64 what, .int .i64 at_, .int .u8 (by_.toNat : Int), .bool sm] * Emp)))) w_7) := hs.up2
                clear hs
                replace HC : Hid (w_7.cell? ⟨w.heap.size, 2, none⟩ = some (.int .u8 (by_.toNat : Int))) := HS.out.up4.cell 2
                refine hK.out _ _ HC.out (fun hS0 => ?_)
                clear hK K
                refine rgn_call (i := 4) rfl (by kernel_rfl) (fun K hK => ?_)
                refine step_appB rfl (.tmp 55) (.tmp 58) rfl (some ⟨B0, 0, none⟩) 0 [] rfl HS.out A2 c2 q1 (by rw [Hq1l.out]; rfl) (HSr.out _ HS.out.up3.row_rdK) q1 rfl hq5.out ?_
                intro A4 c4 w_4 hs
                replace HS : Hid (Sat w (Row 5 1 (.slice A4 q1.length c4) q1.length (q1.map bv) * (Pt B7 5 #[.int .u8 (by_.toNat : Int)] * (Row 5 1 (.slice A2 b.length c2) b.length (b.map bv) * (Pt w.heap.size 70 #[.int .i64 what, .int .i64 at_, .int .u8 (by_.toNat : Int), .bool sm] * Emp)))) w_4) := hs
                clear hs
                replace HC : Hid (w_4.cell? ⟨w.heap.size, 2, none⟩ = some (.int .u8 (by_.toNat : Int))) := HS.out.up4.cell 2
                refine hK.out _ _ HC.out (fun hS0 => ?_)
                clear hK K
                try simp only [Act.put, List.setIfInBounds_toArray, List.set_cons_zero, List.set_cons_succ]
                refine rgn_call (i := 8) rfl (by kernel_rfl) (fun K hK => ?_)
                refine step_appB rfl (.tmp 59) (.tmp 62) rfl A4 c4 q1 rfl HS.out (some ⟨B7, 0, none⟩) 1 [by_] rfl (pt_rd1 HS.out.up2) q8 Hq8.out hq8l.out ?_
                intro A8 c8 w_8 hs
                replace HS : Hid (Sat w (Row 5 1 (.slice A8 q8.length c8) q8.length (q8.map bv) * (Pt B7 5 #[.int .u8 (by_.toNat : Int)] * (Row 5 1 (.slice A2 b.length c2) b.length (b.map bv) * (Pt w.heap.size 70 #[.int .i64 what, .int .i64 at_, .int .u8 (by_.toNat : Int), .bool sm] * Emp)))) w_8) := hs
                clear hs
                replace HC : Hid (w_8.cell? ⟨w.heap.size, 2, none⟩ = some (.int .u8 (by_.toNat : Int))) := HS.out.up4.cell 2
                refine hK.out _ _ HC.out (fun hS0 => ?_)
                clear hK K
                try simp only [Act.put, List.setIfInBounds_toArray, List.set_cons_zero, List.set_cons_succ]
                refine rgn_call (i := 12) rfl (by kernel_rfl) (fun K hK => ?_)
                refine step_appB rfl (.tmp 63) (.tmp 66) rfl A8 c8 q8 rfl HS.out (A2.map (·.add p)) (c2 - p) q2 (by rw [Hq2l.out]; rfl) (HSd.out _ HS.out.up3.row_rdK) q9 Hq9.out hq9l.out ?_
                intro A12 c12 w_12 hs
                replace HS : Hid (Sat w (Row 5 1 (.slice A12 q9.length c12) q9.length (q9.map bv) * (Pt B7 5 #[.int .u8 (by_.toNat : Int)] * (Row 5 1 (.slice A2 b.length c2) b.length (b.map bv) * (Pt w.heap.size 70 #[.int .i64 what, .int .i64 at_, .int .u8 (by_.toNat : Int), .bool sm] * Emp)))) w_12) := hs
                clear hs
                replace HC : Hid (w_12.cell? ⟨w.heap.size, 2, none⟩ = some (.int .u8 (by_.toNat : Int))) := HS.out.up4.cell 2
                refine hK.out _ _ HC.out (fun hS0 => ?_)
                clear hK K
                try simp only [Act.put, List.setIfInBounds_toArray, List.set_cons_zero, List.set_cons_succ]
                refine rgn_take (i := 13) (v := ?rv10) rfl (by kernel_rfl) (by kernel_rfl) (by kernel_rfl) (fun _ _ _ h => h) (by rfl) ?rh10 (by assumption) ?rr10
                case rh10 => (intro w hSw; (try dsimp only at hSw); go_simp; try with_reducible rfl)
                simp only [Act.put, List.setIfInBounds_toArray, List.set_cons_zero, List.set_cons_succ]
                refine wpAnyH_done (by kernel_rfl) ?_ _
                (try go_simp)
                (try go_wp2_with fail)
                go_meet
                exact ⟨A12, q9, c12, rfl, hq9m.out, HS.out.row_rdK, ⟨b, rfl, HS.out.up3.row_rdK⟩, HS.out.chg, HS.out.up4.cell 3⟩
            ·
              go_simp
              have hs := HS.out.allocPt 5 #[.int .u8 (by_.toNat : Int)]
              revert hs
              generalize World.alloc wd _ = w_7
              generalize wd.heap.size = B7
              intro hs
              replace HS : Hid (Sat w (Pt B7 5 #[.int .u8 (by_.toNat : Int)] * (Row 5 1 (.slice A2 b.length c2) b.length (b.map bv) * (Pt w.heap.size 70 #[.int .i64 what, .int .i64 at_, .int .u8 (by_.toNat : Int), .bool sm] * Emp))) w_7) := hs
              clear hs
              replace HC : Hid (w_7.cell? ⟨w.heap.size, 2, none⟩ = some (.int .u8 (by_.toNat : Int))) := HS.out.up3.cell 2
              refine hK.out _ _ HC.out (fun hS0 => ?_)
              clear hK K
              refine rgn_call (i := 0) rfl (by kernel_rfl) (fun K hK => ?_)
              go_simp
              have hs := HS.out.litRow7 5 1
              revert hs
              generalize World.alloc w_7 _ = w_0
              generalize w_7.heap.size = B0
              intro hs
              replace HS : Hid (Sat w (Row 5 1 (.slice (some ⟨B0, 0, none⟩) 0 0) 0 [] * (Pt B7 5 #[.int .u8 (by_.toNat : Int)] * (Row 5 1 (.slice A2 b.length c2) b.length (b.map bv) * (Pt w.heap.size 70 #[.int .i64 what, .int .i64 at_, .int .u8 (by_.toNat : Int), .bool sm] * Emp)))) w_0) := hs
              clear hs
              replace HC : Hid (w_0.cell? ⟨w.heap.size, 2, none⟩ = some (.int .u8 (by_.toNat : Int))) := HS.out.up4.cell 2
              refine hK.out _ _ HC.out (fun hS0 => ?_)
              clear hK K
              refine rgn_call (i := 4) rfl (by kernel_rfl) (fun K hK => ?_)
              refine step_appB rfl (.tmp 55) (.tmp 58) rfl (some ⟨B0, 0, none⟩) 0 [] rfl HS.out A2 c2 q1 (by rw [Hq1l.out]; rfl) (HSr.out _ HS.out.up3.row_rdK) q1 rfl hq5.out ?_
              intro A4 c4 w_4 hs
              replace HS : Hid (Sat w (Row 5 1 (.slice A4 q1.length c4) q1.length (q1.map bv) * (Pt B7 5 #[.int .u8 (by_.toNat : Int)] * (Row 5 1 (.slice A2 b.length c2) b.length (b.map bv) * (Pt w.heap.size 70 #[.int .i64 what, .int .i64 at_, .int .u8 (by_.toNat : Int), .bool sm] * Emp)))) w_4) := hs
              clear hs
              replace HC : Hid (w_4.cell? ⟨w.heap.size, 2, none⟩ = some (.int .u8 (by_.toNat : Int))) := HS.out.up4.cell 2
              refine hK.out _ _ HC.out (fun hS0 => ?_)
              clear hK K
              try simp only [Act.put, List.setIfInBounds_toArray, List.set_cons_zero, List.set_cons_succ]
              refine rgn_call (i := 8) rfl (by kernel_rfl) (fun K hK => ?_)
              refine step_appB rfl (.tmp 59) (.tmp 62) rfl A4 c4 q1 rfl HS.out (some ⟨B7, 0, none⟩) 1 [by_] rfl (pt_rd1 HS.out.up2) q8 Hq8.out hq8l.out ?_
              intro A8 c8 w_8 hs
              replace HS : Hid (Sat w (Row 5 1 (.slice A8 q8.length c8) q8.length (q8.map bv) * (Pt B7 5 #[.int .u8 (by_.toNat : Int)] * (Row 5 1 (.slice A2 b.length c2) b.length (b.map bv) * (Pt w.heap.size 70 #[.int .i64 what, .int .i64 at_, .int .u8 (by_.toNat : Int), .bool sm] * Emp)))) w_8) := hs
              clear hs
              replace HC : Hid (w_8.cell? ⟨w.heap.size, 2, none⟩ = some (.int .u8 (by_.toNat : Int))) := HS.out.up4.cell 2
              refine hK.out _ _ HC.out (fun hS0 => ?_)
              clear hK K
              try simp only [Act.put, List.setIfInBounds_toArray, List.set_cons_zero, List.set_cons_succ]
              refine rgn_call (i := 12) rfl (by kernel_rfl) (fun K hK => ?_)
              refine step_appB rfl (.tmp 63) (.tmp 66) rfl A8 c8 q8 rfl HS.out (A2.map (·.add p)) (c2 - p) q2 (by rw [Hq2l.out]; rfl) (HSd.out _ HS.out.up3.row_rdK) q9 Hq9.out hq9l.out ?_
              intro A12 c12 w_12 hs
              replace HS : Hid (Sat w (Row 5 1 (.slice A12 q9.length c12) q9.length (q9.map bv) * (Pt B7 5 #[.int .u8 (by_.toNat : Int)] * (Row 5 1 (.slice A2 b.length c2) b.length (b.map bv) * (Pt w.heap.size 70 #[.int .i64 what, .int .i64 at_, .int .u8 (by_.toNat : Int), .bool sm] * Emp)))) w_12) := hs
              clear hs
              replace HC : Hid (w_12.cell? ⟨w.heap.size, 2, none⟩ = some (.int .u8 (by_.toNat : Int))) := HS.out.up4.cell 2
              refine hK.out _ _ HC.out (fun hS0 => ?_)
              clear hK K
              try simp only [Act.put, List.setIfInBounds_toArray, List.set_cons_zero, List.set_cons_succ]
              refine rgn_take (i := 13) (v := ?rv11) rfl (by kernel_rfl) (by kernel_rfl) (by kernel_rfl) (fun _ _ _ h => h) (by rfl) ?rh11 (by assumption) ?rr11
              case rh11 => (intro w hSw; (try dsimp only at hSw); go_simp; try with_reducible rfl)
              simp only [Act.put, List.setIfInBounds_toArray, List.set_cons_zero, List.set_cons_succ]
              refine wpAnyH_done (by kernel_rfl) ?_ _
              (try go_simp)
              (try go_wp2_with fail)
              go_meet
              exact ⟨A12, q9, c12, rfl, hq9m.out, HS.out.row_rdK, ⟨b, rfl, HS.out.up3.row_rdK⟩, HS.out.chg, HS.out.up4.cell 3⟩
          · have hk1 : ((k : Int) == 1) = false := by rw [beq_eq_false_iff_ne]; omega
            have hk2 : ((k : Int) == 2) = false := by rw [beq_eq_false_iff_ne]; omega
            have hk3 : ((k : Int) == 3) = false := by rw [beq_eq_false_iff_ne]; omega
            clear k1 k2 k3
            go_wp2_with fail
            go_meet
            refine ⟨A2, b.take m, c2, ?_, ?_, HRk.out, ⟨b, rfl, HS2.out.row_rdK⟩, HS2.out.chg, HS2.out.up2.cell 3⟩
            · rw [HLn.out]
            · rw [HLn.out]; omega
    case rest =>
      obtain ⟨BA, bl, bc, e9, hcut⟩ := hcut
      subst e9
      have hbl2 := hcut.out.1
      have HBR := Lib.hid hcut.out.2.1
      obtain ⟨cl, hcl, hcr⟩ := hcut.out.2.2.1
      have HCR : Hid (Rd wc (A2.map (·.add m)) (cl.drop m)) := by
        have h9 := Rd.drop (k := m) (cap := c2) hcr (by omega) (by omega)
        rw [if_neg hmc] at h9
        exact h9
      have HC := Lib.hid hcut.out.2.2.2.1
      have HE3 := Lib.hid hcut.out.2.2.2.2
      obtain ⟨t1, ht1⟩ : ∃ t, t = cl.drop m := ⟨_, rfl⟩
      have hm9 := HMb.out
      have ht1l : t1.length = 4 := by rw [ht1, List.length_drop]; omega
      have Ht1n : Hid (b.length - m = t1.length) := by unfold Hid; omega
      have HT := Lib.hid (twin_n (A2.map (·.add m)) (c2 - m) t1 (b.length - m) Ht1n.out wc (by rw [ht1]; exact HCR.out) (by omega))
      have Ht1l := Lib.hid ht1l
      clear ht1 hcl hcr hcut ht1l hm9
      go_upto_region 14 with (go_at_call 78; (with_reducible refine HT.out.mono ?_); rintro e w3 ⟨v3, rfl, h3, k3⟩; have hs := ((Sat.start w).new HC.out).gotRow k3 h3; obtain ⟨A3, c3, hv3, h6, h7⟩ := hs.row_sl; subst hv3; have HS3 := Lib.hid hs; have HK3 := Lib.hid k3; clear hs h3 k3)
      have f3 : w3.cell? ⟨w.heap.size, 3, none⟩ = some (.bool sm) := HK3.out.cell HE3.out id
      have HBR3 := Lib.hid (HBR.out.new HK3.out)
      cases sm
      · obtain ⟨q, hq⟩ : ∃ q, q = bl ++ t1 := ⟨_, rfl⟩
        have hql : q.length = bl.length + 4 := by rw [hq, List.length_append, Ht1l.out]
        have Hq := Lib.hid hq
        have hbl5 : Hid (bl.length ≤ 140737488355328) := by unfold Hid; omega
        have hq5 : Hid (q.length ≤ 140737488355328) := by unfold Hid; omega
        have hq6 : Hid (q.length ≤ b.length + 5) := by unfold Hid; omega
        clear hq hql
        have HSl := Lib.hid (HS3.out.litRow7 5 1)
        go_wp2_with (first
          | (at_builtin; refine wpList_appB rfl (.tmp 78) (.tmp 79) rfl (some ⟨w3.heap.size, 0, none⟩) 0 [] rfl HSl.out BA bc bl rfl (HBR3.out.alloc _) bl rfl hbl5.out ?_; intro A80 c80 w80 hs; have HS80 := Lib.hid hs; clear hs)
          | (at_builtin; refine wpList_appB rfl (.tmp 80) (.tmp 81) rfl A80 c80 bl rfl HS80.out A3 c3 t1 rfl HS80.out.up2.row_rdK q Hq.out hq5.out ?_; intro A82 c82 w82 hs; have HS82 := Lib.hid hs; clear hs))
        obtain ⟨A9, c9, e9, h8, h9⟩ := HS82.out.row_sl
        injection e9 with e9 _ e8
        subst e9; subst e8
        go_ret
        exact ⟨_, q, _, rfl, hq6.out, h8, h9, HS82.out.row_rdK, HS82.out.chg⟩
      · have HSm := Lib.hid (sum7_n BA bc bl bl.length rfl w3 HBR3.out (by omega))
        go_upto_region 16 with (go_at_call 84; (with_reducible refine HSm.out.mono ?_); rintro e w4 ⟨A4, t4, c4, rfl, h1, h2, h3, h4, h5⟩; have H1 := Lib.hid h1; have H4R := Lib.hid h4; have HC4 := Lib.hid h5; clear h1 h2 h3 h4 h5)
        have h1 := H1.out
        obtain ⟨q, hq⟩ : ∃ q, q = bl ++ t4 := ⟨_, rfl⟩
        have hql : q.length ≤ bl.length + 4 := by rw [hq, List.length_append]; omega
        have Hq := Lib.hid hq
        have hbl5 : Hid (bl.length ≤ 140737488355328) := by unfold Hid; omega
        have hq5 : Hid (q.length ≤ 140737488355328) := by unfold Hid; omega
        have hq6 : Hid (q.length ≤ b.length + 5) := by unfold Hid; omega
        have HBR4 := Lib.hid (HBR3.out.new HC4.out)
        clear hq hql h1
        have hsl := ((Sat.start w4).litRow7 5 1)
        have HSl := Lib.hid hsl
        have HC0 := Lib.hid (HS3.out.chg.tr HC4.out)
        clear hsl
        go_wp2_with (first
          | (at_builtin; refine wpList_appB rfl (.tmp 78) (.tmp 79) rfl (some ⟨w4.heap.size, 0, none⟩) 0 [] rfl HSl.out BA bc bl rfl (HBR4.out.alloc _) bl rfl hbl5.out ?_; intro A80 c80 w80 hs; have HS80 := Lib.hid hs; clear hs)
          | (at_builtin; refine wpList_appB rfl (.tmp 80) (.tmp 81) rfl A80 c80 bl rfl HS80.out A4 c4 t4 rfl (H4R.out.new HS80.out.chg) q Hq.out hq5.out ?_; intro A82 c82 w82 hs; have HS82 := Lib.hid hs; clear hs))
        obtain ⟨A9, c9, e9, h8, h9⟩ := HS82.out.row_sl
        injection e9 with e9 _ e8
        subst e9; subst e8
        go_ret
        exact ⟨_, q, _, rfl, hq6.out, h8, h9, HS82.out.row_rdK, HC0.out.tr HS82.out.chg⟩
end Go.Proofs.Ytaoenbjfkahdjaa
