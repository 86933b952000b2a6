/- tidingslaw02.BlockPlays -/
import Derived.Test.YtiimlbkccoofmaaPlays
import Derived.Deep.CutBlock
namespace Go.Proofs.Ytiimlbkccoofmaa
open Go.RowKit Go.ChangeShapes Go.WideShapes Go.Deep
set_option linter.unusedVariables false

theorem on_three {w0 w : World} {F : SP} {d : Nat} {D : Dk} (h : Sat w0 (Disk d D * F) w) (b0 b1 b2 : Bool) (torn bytes : Int) (hw2 : D.pend.length ≤ 1000000000) :
    Calls Try.prog 16 #[.pointer (some ⟨d, 0, none⟩), .slice (some ⟨w.heap.size, 0, none⟩) 3 3, .int .i64 torn, .int .i64 bytes] (w.alloc (.cells #[.bool b0, .bool b1, .bool b2] 4)) fun e w' => e = .returned (.tuple #[]) ∧ Sat w0 (Disk d (D.on [b0, b1, b2] torn bytes) * F) w' := by
  have h1 := (h.allocPt 4 #[.bool b0, .bool b1, .bool b2]).give (o := 0) (xs := [b0, b1, b2].map Value.bool) (fun j hj => by
    match j, hj with
    | 0, _ => rfl
    | 1, _ => rfl
    | 2, _ => rfl)
  refine (on_any d D (some ⟨w.heap.size, 0, none⟩) 3 [b0, b1, b2] torn bytes w0 _ F h1.up2 hw2 (by simp)).mono ?_
  rintro e w' ⟨rfl, hs⟩
  exact ⟨rfl, hs.drop2⟩
theorem rnew_yes (n : Nat) (h : 2 ≤ n ∧ n ≤ 65536) (w0 w : World) (F : SP) (hs : Sat w0 F w) : Calls Try.prog 23 #[.int .i64 n] w fun e w' => ∃ d, e = .returned (.tuple #[.pointer (some ⟨d, 0, none⟩), .int .i64 0]) ∧ Sat w0 (RDisk d (Dk.new n) * F) w' := by
  refine (rNew_any n w0 w F hs).mono ?_
  intro e w1 h1
  unfold RNewD at h1
  rw [if_pos (by omega)] at h1
  exact h1
theorem rnew_no (n : Int) (h : ¬ (2 ≤ n ∧ n ≤ 65536)) (w0 w : World) (F : SP) (hs : Sat w0 F w) : Calls Try.prog 23 #[.int .i64 n] w fun e w' => e = .returned (.tuple #[.pointer none, .int .i64 20]) ∧ Sat w0 F w' := by
  refine (rNew_any n w0 w F hs).mono ?_
  intro e w1 h1
  unfold RNewD at h1
  rwa [if_neg h] at h1
theorem Small.new (n : Nat) : Small (Dk.new n) 0 := ⟨Nat.le_refl _, Nat.le_refl _, by show 0 ≤ _; omega⟩
theorem step_len (D : Dk) (o : OpD) : (D.step o).cells.length = D.cells.length := by
  have hwr : ∀ i b, (D.write i b).1.cells.length = D.cells.length := fun i b => by
    unfold Dk.write
    split
    · split <;> rfl
    · rfl
  unfold Dk.step Dk.stepK
  split
  · exact hwr _ _
  · unfold Dk.flush
    split
    · rfl
    · exact lay_len _ _
  · rfl
  · rfl
  · unfold Dk.on
    split
    · exact onAll_len ..
    · rfl
  · exact hwr _ _
  · rfl
/-- A script. -/
def Script (w : World) (A : Option Addr) (c : Nat) (ls : List OpD) : Prop := ls.length ≤ c ∧ c ≤ maxLen ∧ RdV w A (ls.flatMap opV) ∧ ls.length * 64 ≤ 140737488351232 ∧
  ∀ o ∈ ls, isI64 o.n ∧ RdV w o.kp (o.keep.map Value.bool) ∧ o.keep.length ≤ 140737488351232
theorem blockPlays_no (n : Int) (A : Option Addr) (c : Nat) (ls : List OpD) (w : World) (hn : -9223372036854775808 ≤ n ∧ n ≤ 9223372036854775807) (h : ¬ (2 ≤ n ∧ n ≤ 65536)) :
    Calls Try.prog 7 #[.int .i64 n, .slice A ls.length c] w (Asked true w) := by
  have H := Lib.hid h
  have hcase : n ≤ 1 ∨ 65536 < n := by omega
  clear h hn
  rcases hcase with h1 | h1
  all_goals
    go_enter Try.func7, Try.ntmps7
    go_wp2_with fail
    refine (new_no n H.out w w _ (Sat.start w)).mono ?_
    rintro e w1 ⟨rfl, hs⟩
    have HS1 := Lib.hid hs
    clear hs
    go_wp2_with fail
    refine (rnew_no n H.out w w1 _ HS1.out).mono ?_
    rintro e w2 ⟨rfl, hs⟩
    have HS2 := Lib.hid hs
    clear hs
    go_wp2_with (first
      | (go_at_call 9; refine (num_any _ _).mono ?_; rintro e w' ⟨rfl, rfl⟩)
      | (go_at_call 10; refine (wakes_any w w2 _ HS2.out).mono ?_; rintro e w4 ⟨rfl, hs4⟩; have HS4 := Lib.hid hs4; clear hs4))
    go_ret
    exact ⟨rfl, HS4.out.chg⟩
set_option maxRecDepth 100000 in
set_option maxHeartbeats 16000000 in
theorem blockPlays_yes (n : Int) (A : Option Addr) (c : Nat) (ls : List OpD) (w : World) (h : 2 ≤ n ∧ n ≤ 65536) (hp : Script w A c ls) :
    Calls Try.prog 7 #[.int .i64 n, .slice A ls.length c] w (Asked true w) := by
  have HP := Lib.hid hp
  have hl : ls.length ≤ 2199023255552 := by have := hp.2.2.2.1; omega
  have HN := Lib.hid h
  obtain ⟨k, rfl⟩ : ∃ k : Nat, n = k := ⟨n.toNat, by omega⟩
  obtain ⟨h1, h2⟩ := h
  clear hp
  go_enter Try.func7, Try.ntmps7
  go_wp2_with fail
  refine (new_yes k (by omega) w w _ (Sat.start w)).mono ?_
  rintro e w1 ⟨d0, rfl, hs⟩
  have HS1 := Lib.hid hs
  clear hs
  go_upto_region 2 with fail
  go_cut [26] (fun s wx => s = .bool (decide (200 < (k : Int))) ∧ Hid (wx = w1))
  case first =>
    by_cases hk : 200 < (k : Int)
    · have HK := Lib.hid (decide_eq_true hk)
      go_wp2_with fail
      go_meet
      exact ⟨by rw [HK.out], rfl⟩
    · have HK := Lib.hid (decide_eq_false hk)
      go_wp2_with fail
      go_meet
      exact ⟨by rw [HK.out], rfl⟩
  case rest =>
  obtain ⟨rfl, HW1⟩ := hcut
  have hw1 := HW1.out
  subst hw1
  go_upto_if 26 with fail
  go_cut [0, 5, 6] (fun nv dv ev wx => ∃ N d : Nat, nv = .int .i64 N ∧ dv = .pointer (some ⟨d, 0, none⟩) ∧ ev = .int .i64 0 ∧ 2 ≤ N ∧ N ≤ 200 ∧ Hid (Sat w (Disk d (Dk.new N) * Emp) wx))
  case first =>
    by_cases hk : 200 < (k : Int)
    · have hm0 := i64_and_le k 63 (by omega)
      obtain ⟨m, hm⟩ : ∃ m, bits .and .i64 (k : Int) 63 = m := ⟨_, rfl⟩
      have hm1 : 0 ≤ m ∧ m ≤ 63 := by rw [← hm]; exact hm0
      clear hm0
      obtain ⟨hm2, hm3⟩ := hm1
      obtain ⟨N, hN⟩ : ∃ N : Nat, 2 + m = N := ⟨(2 + m).toNat, by omega⟩
      have hN1 : 2 ≤ N ∧ N ≤ 65 := by omega
      go_wp2_with fail
      clear hm hN
      refine (new_yes N (by omega) w wc _ HS1.out.right).mono ?_
      rintro e w2 ⟨d, rfl, hs⟩
      have HS2 := Lib.hid hs
      clear hs
      go_wp2_with fail
      go_meet
      exact ⟨N, d, rfl, rfl, rfl, hN1.1, by omega, HS2.out⟩
    · go_wp2_with fail
      go_meet
      exact ⟨k, d0, rfl, rfl, rfl, by omega, by omega, HS1.out⟩
  case rest =>
    obtain ⟨N, d, rfl, rfl, rfl, hN1, hN2, HS2⟩ := hcut
    clear HS1 h1 h2 HN
    go_wp2_with fail
    refine (rnew_yes N (by omega) w wc _ HS2.out).mono ?_
    rintro e w3 ⟨r, rfl, hs⟩
    have HS3 := Lib.hid hs
    clear hs
    go_upto_block 0 with (first
      | (go_at_call 9; refine (num_any _ _).mono ?_; rintro e w' ⟨rfl, rfl⟩)
      | (go_at_call 10; refine (wakes_any w w3 _ HS3.out).mono ?_; rintro e w4 ⟨rfl, hs4⟩; have HS4 := Lib.hid hs4; clear hs4))
    go_cut [5, 7, 9] (fun dv rv _ wx => ∃ d r : Nat, dv = .pointer (some ⟨d, 0, none⟩) ∧ rv = .pointer (some ⟨r, 0, none⟩) ∧ Hid (∃ D, D.cells.length = N ∧ Small D 1000 ∧ Sat w (Disk d D * (RDisk r D * Emp)) wx))
    case first =>
      go_wp2_with fail
      go_loopw [5, 7, 9] (fun dv rv i wr => ∃ d r j : Nat, dv = .pointer (some ⟨d, 0, none⟩) ∧ rv = .pointer (some ⟨r, 0, none⟩) ∧ j ≤ ls.length ∧ j ≤ 150 ∧ i = .int .i64 j ∧ Hid (∃ D, D.cells.length = N ∧ Small D j ∧ Sat w (Disk d D * (RDisk r D * Emp)) wr)) (fun _ _ i _ => ls.length - (intOf i).toNat)
      case atStart => exact ⟨d, r, 0, rfl, rfl, by omega, by omega, rfl, _, by simp [Dk.new], Small.new N, HS4.out.up2⟩
      case round =>
        obtain ⟨d, r, j, rfl, rfl, hj, hj6, rfl, HD0⟩ := hrel
        obtain ⟨D, hlen, hsm, hsat⟩ := HD0.out
        by_cases hlt : j < ls.length ∧ j < 150
        · obtain ⟨hlt, hj20⟩ := hlt
          obtain ⟨b, o, rfl, hcell⟩ := ((HP.out.2.2.1).new hsat.chg).elem (k := 6) (fun _ => rfl) (by decide) hlt
          have q0 := hcell 0 (by decide)
          have hj20' : (j : Int) < 150 := by omega
          have HC : Hid (∀ W, Chg No w W → ∀ t, t < 6 → W.cell? ⟨b, o + (j * 6 + t), none⟩ = (opV ls[j])[t]?) := fun W hW t ht => by
            obtain ⟨b', o', e, hc⟩ := ((HP.out.2.2.1).new hW).elem (k := 6) (fun _ => rfl) (by decide) hlt
            injection e with e
            injection e with e1 e2
            subst e1; subst e2
            exact hc t ht
          have HOk := Lib.hid (HP.out.2.2.2.2 ls[j] (List.getElem_mem hlt))
          have HD := Lib.hid hsat
          have HSm := Lib.hid hsm
          have HLn := Lib.hid hlen
          clear hsat hsm hlen HD0 hcell
          generalize ls[j] = op at *
          simp only [opV, List.getElem?_cons_zero, Nat.add_zero] at q0
          go_upto_if 73 with (go_at_call 20; refine (within0 op.do_ 7 _ (by decide) (by decide)).mono ?_; rintro e w' ⟨rfl, rfl⟩)
          go_cut [5, 7, 10] (fun dv rv _ wx => ∃ d' r' : Nat, dv = .pointer (some ⟨d', 0, none⟩) ∧ rv = .pointer (some ⟨r', 0, none⟩) ∧ Hid (Sat w (Disk d' D * (RDisk r' D * Emp)) wx))
          case first =>
            generalize wi op.do_ 7 = kk at *
            by_cases he : kk = 6
            · have he' : ((kk : Int) == 6) = true := by rw [beq_iff_eq]; omega
              clear he
              go_wp2_with fail
              refine (twinD_any d D w wr _ HD.out (by have := HSm.out.pend; omega)).mono ?_
              rintro e w5 ⟨t, rfl, hs⟩
              have HS5 := Lib.hid hs
              clear hs
              go_wp2_with fail
              refine (rTwin_any r D w w5 _ HS5.out.up3 (by have := HSm.out.pend; omega)).mono ?_
              rintro e w6 ⟨t', rfl, hs⟩
              have HS6 := Lib.hid (hs.of (show _ = Disk d D * (RDisk r D * (Disk t D * (RDisk t' D * Emp))) by ac_rfl))
              clear hs
              go_wp2_with fail
              refine (fill_any 99 w w6 _ HS6.out).mono ?_
              rintro e w7 ⟨A7, c7, rfl, hs⟩
              have HS7 := Lib.hid hs.rowGive
              clear hs
              obtain ⟨D1, k1, hwr⟩ : ∃ D1 k1, D.write 0 (fill 99) = (D1, k1) := ⟨_, _, rfl⟩
              have HSm1 : Hid (Small D1 (j + 1)) := by have h1 := HSm.out.write 0 (fill 99); rw [hwr] at h1; exact h1
              have HWr := Lib.hid hwr
              clear hwr
              go_wp2_with fail
              refine (write_at HS7.out HS7.out.up2.rd (length_fill _) HWr.out (by decide) (by have := HSm.out.writes; omega) (by have := HSm.out.pend; omega) HSm.out.armed).mono ?_
              rintro e w8 ⟨rfl, hs⟩
              have HS8 := Lib.hid hs.drop2
              clear hs
              go_wp2_with fail
              refine (cut_any d D1 w w8 _ HS8.out).mono ?_
              rintro e w9 ⟨rfl, hs⟩
              have HS9 := Lib.hid hs
              clear hs
              go_wp2_with fail
              refine (on_three HS9.out true true true (-1) 0 (by have := HSm1.out.pend; show D1.pend.length ≤ _; omega)).mono ?_
              rintro e w10 ⟨rfl, hs⟩
              have HS10 := Lib.hid hs.right.right
              clear hs
              go_wp2_with fail
              go_meet
              exact ⟨t, t', rfl, rfl, HS10.out⟩
            · have he' : ((kk : Int) == 6) = false := by rw [beq_eq_false_iff_ne]; omega
              clear he
              go_wp2_with fail
              go_meet
              exact ⟨d, r, rfl, rfl, HD.out⟩
          case rest =>
            obtain ⟨d', r', rfl, rfl, HD2⟩ := hcut
            have p0 := HC.out wc HD2.out.chg 0 (by decide)
            have p1 := HC.out wc HD2.out.chg 1 (by decide)
            have p2 := HC.out wc HD2.out.chg 2 (by decide)
            have p3 := HC.out wc HD2.out.chg 3 (by decide)
            have p4 := HC.out wc HD2.out.chg 4 (by decide)
            have p5 := HC.out wc HD2.out.chg 5 (by decide)
            simp only [opV, List.getElem?_cons_zero, List.getElem?_cons_succ, Nat.add_zero, ← Nat.add_assoc] at p0 p1 p2 p3 p4 p5
            have HDn := Lib.hid (done_any d' r' D op w wc Emp ((HD2.out.arg HOk.out.2.1).of (by unfold DoneP; ac_rfl)) ⟨by have := HSm.out.writes; omega, by have := HSm.out.pend; omega, HSm.out.armed⟩ (by have := HOk.out.2.2; omega) (by have := HOk.out.1.2; omega))
            clear q0
            go_wp2_with fail
            refine HDn.out.mono ?_
            rintro e w11 ⟨rfl, hs⟩
            have HS11 := Lib.hid (show Sat w (Disk d' (D.step op) * (RDisk r' (D.step op) * Emp)) w11 from Sat.right (A := Ro op.kp (op.keep.map Value.bool)) (Sat.up3 hs))
            clear hs
            go_wp2_with fail
            go_roundw
            case rel => exact ⟨d', r', j + 1, rfl, rfl, by omega, by omega, by go_num, D.step op, (step_len D op).trans HLn.out, HSm.out.step op (by have := HOk.out.1.2; omega), HS11.out⟩
            case measure => simp [intOf]; omega
        · by_cases hlt2 : j < ls.length
          · have hj20 : ¬ (j : Int) < 150 := by omega
            clear hlt
            go_wp2_with fail
            go_meet
            exact ⟨d, r, rfl, rfl, D, hlen, hsm.mono (by omega), hsat⟩
          · have hj20 : ¬ (j : Int) < ls.length := by omega
            clear hlt
            go_wp2_with fail
            go_meet
            exact ⟨d, r, rfl, rfl, D, hlen, hsm.mono (by omega), hsat⟩
    case rest =>
      obtain ⟨d, r, rfl, rfl, HD0⟩ := hcut
      obtain ⟨D, hlen, hsm, hsat⟩ := HD0.out
      have HD := Lib.hid hsat
      have HSm := Lib.hid hsm
      have HLn := Lib.hid hlen
      clear hsat hsm hlen HD0 HS2 HS3 HS4
      go_wp2_with fail
      go_loopw [11] (fun i wr => ∃ j : Nat, j ≤ N + 2 ∧ i = .int .i64 ((j : Int) - 1) ∧ Hid (Sat w (Disk d D * (RDisk r D * Emp)) wr)) (fun i _ => (N + 1 - intOf i).toNat)
      case atStart => exact ⟨0, by omega, rfl, HD.out⟩
      case round =>
        obtain ⟨j, hj, rfl, HR⟩ := hrel
        by_cases hlt : j < N + 2
        · have hlt' : (j : Int) - 1 ≤ N := by omega
          obtain ⟨i, hi⟩ : ∃ i, (j : Int) - 1 = i := ⟨_, rfl⟩
          have HI := Lib.hid hi
          have hi1 : -1 ≤ i ∧ i ≤ 200 := by omega
          rw [hi] at hlt'
          rw [hi]
          clear hi
          obtain ⟨hi1, hi2⟩ := hi1
          obtain ⟨l, c, hrd⟩ : ∃ l c, D.read i = (l, c) := ⟨_, _, rfl⟩
          have HRd := Lib.hid hrd
          have ecc : (c != c) = false := by simp
          clear hrd
          go_wp2_with fail
          refine (read_at HR.out HRd.out).mono ?_
          rintro e w2 ⟨A2, c2, rfl, hs⟩
          have HS2 := Lib.hid hs.row_rb
          clear hs
          go_wp2_with fail
          refine (rRead_at HS2.out.up3 HRd.out (by have := HSm.out.pend; omega)).mono ?_
          rintro e w3 ⟨A3, c3, rfl, hs⟩
          have HS3 := Lib.hid hs.row_rb
          clear hs
          go_wp2_with (first
            | (go_at_call 9; refine (num_any _ _).mono ?_; rintro e w' ⟨rfl, rfl⟩)
            | (go_at_call 18; refine (same_at HS3.out.up3.rd HS3.out.rd rfl rfl (beq_self_eq_true _)).mono ?_; rintro e w' ⟨rfl, rfl⟩))
          go_roundw
          case rel => exact ⟨j + 1, by omega, by have := HI.out; congr 1; omega, Sat.right (A := Rb A3 l * Rb A2 l) (HS3.out.of (by ac_rfl))⟩
          case measure => simp [intOf]; have := HI.out; omega
        · obtain rfl : j = N + 2 := by omega
          have e0 : (((N + 2 : Nat) : Int) - 1) = (N : Int) + 1 := by omega
          rw [e0]
          clear e0
          obtain ⟨p3, p5⟩ := Sat.rdHead HR.out.up2
          have e0 : (((D.cells.length : Nat) : Int) == (N : Int)) = true := by rw [HLn.out]; exact beq_self_eq_true _
          have e1 : (D.off == D.off) = true := beq_self_eq_true _
          have e2 : (((D.pend.length : Nat) : Int) == ((D.pend.length : Nat) : Int)) = true := beq_self_eq_true _
          have e3 : (((D.writes : Nat) : Int) == ((D.writes : Nat) : Int)) = true := beq_self_eq_true _
          go_wp2_with fail
          go_region_held3 (fun w' => w'.cell? ⟨r, 3, none⟩ = some (.int .i64 D.writes) ∧ w'.cell? ⟨r, 5, none⟩ = some (.bool D.off)) (first | exact ⟨p3, p5⟩ | go_keep)
            (first
              | (go_at_call 28; refine (blocks_any d D w _ _ (by exact HR.out.drew)).mono ?_; rintro e w' ⟨rfl, hww⟩; subst hww)
              | (go_at_call 22; refine (off_any d D w _ _ (by exact HR.out.drew)).mono ?_; rintro e w' ⟨rfl, hww⟩; subst hww)
              | (go_at_call 21; refine (pending_any d D w _ _ (by exact HR.out.drew)).mono ?_; rintro e w' ⟨rfl, hww⟩; subst hww)
              | (go_at_call 29; refine (rPending_any r D w _ _ (by exact HR.out.up2.drew)).mono ?_; rintro e w' ⟨rfl, hww⟩; subst hww)
              | (go_at_call 19; refine (writes_any d D w _ _ (by exact HR.out.drew)).mono ?_; rintro e w' ⟨rfl, hww⟩; subst hww))
          go_wp2_with fail
          go_ret
          exact ⟨rfl, HR.out.chg.drew⟩
theorem blockPlays_walk (n : Int) (A : Option Addr) (c : Nat) (ls : List OpD) (w : World) (hn : -9223372036854775808 ≤ n ∧ n ≤ 9223372036854775807) (hp : Script w A c ls) :
    Calls Try.prog 7 #[.int .i64 n, .slice A ls.length c] w (Asked true w) := by
  by_cases h : 2 ≤ n ∧ n ≤ 65536
  · exact blockPlays_yes n A c ls w h hp
  · exact blockPlays_no n A c ls w hn h
end Go.Proofs.Ytiimlbkccoofmaa
