/- SpacePlays: the walk. -/
import Derived.Deep.CutBlock
import Derived.Test.YtjmapbhgjhlefaaQ14
import Derived.Test.YtjmapbhgjhlefaaQSprM
namespace Go.Proofs.Ytjmapbhgjhlefaa
open Go.RowKit
set_option linter.unusedVariables false
set_option maxRecDepth 100000

set_option maxHeartbeats 8000000 in
theorem spacePlays_walk (bk : Int) (A : Option Addr) (c : Nat) (ss : List StD) (w : World) (hbk : -9223372036854775808 ≤ bk ∧ bk ≤ 9223372036854775807) (hp : StsIn w A c ss) :
    Calls Try.prog 7 #[.int .i64 bk, .slice A ss.length c] w (Asked true w) := by
  obtain ⟨i0, hi0', hz0', hz1', hz2'⟩ := info_parts fileT
  have hi0 := Lib.hid hi0'; have hz0 := Lib.hid hz0'; have hz1 := Lib.hid hz1'; have hz2 := Lib.hid hz2'
  obtain ⟨N, hN⟩ : ∃ n : Nat, (n : Int) = 8 + bk % 64 := ⟨(8 + bk % 64).toNat, by omega⟩
  have hN2 : 8 ≤ N ∧ N ≤ 71 := by omega
  have hma : bits .and .i64 bk 63 = (N : Int) - 8 := by rw [and63]; omega
  have hka : (8 : Int) + ((N : Int) - 8) = N := by omega
  have HB : Hid (Calls Try.prog 24 #[.int .i64 (N : Int)] w fun e w' => ∃ d s, e = .returned (.tuple #[.pointer (some ⟨d, 0, none⟩), .pointer (some ⟨s, 0, none⟩)]) ∧ Sat w (SpaceP s d ⟨1, 1, []⟩ * (Disk d (beginD N) * Emp)) w') := begin_any (w0 := w) (F := Emp) N (by omega) (Sat.start w)
  have HI := Lib.hid (SpIn.begins (N := N) (by omega))
  have HP := Lib.hid hp
  clear hi0' hz0' hz1' hz2' hbk hp hN
  go_enter Try.func7, Try.ntmps7
  go_upto_region 3 with (go_at_call 24; (with_reducible refine HB.out.mono ?_); rintro e w2 ⟨d, s, rfl, hs⟩; have HS2 := Lib.hid hs; clear hs)
  clear HB
  have HWk := Lib.hid (wakes3_any HS2.out)
  go_upto_region 5 with (go_at_call 26; (with_reducible refine HWk.out.mono ?_); rintro e w3 ⟨rfl, hs⟩; have HS3 := Lib.hid hs; clear hs)
  clear HS2 HWk hma hka
  have h4 := HS3.out.allocPt 65 #[.int .i64 (N : Int), .slice none 0 0]
  go_upto_region 6 with fail
  generalize hW : World.alloc w3 _ = w4
  have hs4 : Sat w (Pt w3.heap.size 65 #[.int .i64 (N : Int), .slice none 0 0] * (SpaceP s d ⟨1, 1, []⟩ * (Disk d (beginD N) * Emp))) w4 := by rw [← hW]; exact h4
  clear h4 hW HS3
  revert hs4
  generalize w3.heap.size = r
  intro hs4
  have HS4 : Hid (Sat w (SpaceP s d ⟨1, 1, []⟩ * (Disk d (beginD N) * (RSp r N (.slice none 0 0) [] * (FrP [] * Emp)))) w4) := (hs4.row_nil 125 5).of (by
    unfold RSp FrP
    show Row 125 5 (.slice none 0 0) 0 [] * (Pt r 65 #[.int .i64 (N : Int), .slice none 0 0] * (SpaceP s d ⟨1, 1, []⟩ * (Disk d (beginD N) * Emp))) = SpaceP s d ⟨1, 1, []⟩ * (Disk d (beginD N) * ((Pt r 65 #[.int .i64 (N : Int), .slice none 0 0] * Row 125 5 (.slice none 0 0) 0 []) * (Emp * Emp)))
    rw [emp_star]
    ac_rfl)
  clear hs4
  go_wp2_with fail
  go_loopw [6, 7, 8] (fun sv rv iv wr => ∃ (i s r : Nat) (S : Spc) (D : Dk) (v : Value) (fs : List Rf), i ≤ ss.length ∧ i ≤ 80 ∧ sv = .pointer (some ⟨s, 0, none⟩) ∧ rv = .pointer (some ⟨r, 0, none⟩) ∧ iv = .int .i64 (i : Int) ∧ Hid (SpIn N (1 + i) D S fs ∧ Sat w (SpaceP s d S * (Disk d D * (RSp r N v fs * (FrP fs * Emp)))) wr)) (fun _ _ iv _ => 80 - (intOf iv).toNat)
  case atStart => exact ⟨0, s, r, _, _, _, _, by omega, by omega, rfl, rfl, rfl, HI.out, HS4.out⟩
  case round =>
    obtain ⟨i, s, r, S, D, v, fs, hi, hi80, rfl, rfl, rfl, HD⟩ := hrel
    by_cases hlt : i < ss.length ∧ i < 80
    · have hk2 : (i : Int) < ss.length := by omega
      have hk3 : (i : Int) < 80 := by omega
      obtain ⟨b, o, rfl, hc⟩ := RdV.elem (f := stV) (k := 9) (fun _ => rfl) (by decide) (HP.out.2.2.1.new HD.out.2.chg) hlt.1
      have q0 : wr.cell? ⟨b, o + i * 9, none⟩ = some (.int .i64 ss[i].did) := hc 0 (by decide)
      have q1 : wr.cell? ⟨b, o + i * 9 + 1, none⟩ = some (.int .i64 ss[i].n) := hc 1 (by decide)
      have q2 : wr.cell? ⟨b, o + i * 9 + 2, none⟩ = some (.int .i64 ss[i].k) := hc 2 (by decide)
      have q3 : wr.cell? ⟨b, o + i * 9 + 3, none⟩ = some (.slice ss[i].add.1 ss[i].add.2.2.length ss[i].add.2.1) := hc 3 (by decide)
      have q4 : wr.cell? ⟨b, o + i * 9 + 4, none⟩ = some (.slice ss[i].drop.1 ss[i].drop.2.2.length ss[i].drop.2.1) := hc 4 (by decide)
      have q5 : wr.cell? ⟨b, o + i * 9 + 5, none⟩ = some (.slice ss[i].bytes.1 ss[i].bytes.2.2.length ss[i].bytes.2.1) := hc 5 (by decide)
      have q6 : wr.cell? ⟨b, o + i * 9 + 6, none⟩ = some (.slice ss[i].keep.1 ss[i].keep.2.2.length ss[i].keep.2.1) := hc 6 (by decide)
      have q7 : wr.cell? ⟨b, o + i * 9 + 7, none⟩ = some (.int .i64 ss[i].torn) := hc 7 (by decide)
      have q8 : wr.cell? ⟨b, o + i * 9 + 8, none⟩ = some (.int .i64 ss[i].cut) := hc 8 (by decide)
      have hxin := HP.out.2.2.2.2 ss[i] (List.getElem_mem hlt.1)
      clear hc
      generalize ss[i] = x at *
      have HCt := Lib.hid (scut_any x wr (hxin.new HD.out.2.chg))
      obtain ⟨y, hy⟩ : ∃ y, y = cutSt x := ⟨_, rfl⟩
      have HYin : Hid (StIn w y ∧ y.add.2.2.length ≤ 30 ∧ y.drop.2.2.length ≤ 30 ∧ y.bytes.2.2.length ≤ 600) := by rw [hy]; exact cutSt_in hxin
      rw [← hy] at HCt
      clear hy hxin
      obtain ⟨yq, yn, yk, ⟨aA, ac, al⟩, ⟨dA, dc, dl⟩, ⟨bA, bc, bl⟩, ⟨kA, kc, kl⟩, yt, yc⟩ := y
      dsimp only at HYin
      unfold stA at HCt
      rw [show stV ⟨yq, yn, yk, (aA, ac, al), (dA, dc, dl), (bA, bc, bl), (kA, kc, kl), yt, yc⟩ = [.int .i64 yq, .int .i64 yn, .int .i64 yk, .slice aA al.length ac, .slice dA dl.length dc, .slice bA bl.length bc, .slice kA kl.length kc, .int .i64 yt, .int .i64 yc] from rfl] at HCt
      rw [show stV x = [.int .i64 x.did, .int .i64 x.n, .int .i64 x.k, .slice x.add.1 x.add.2.2.length x.add.2.1, .slice x.drop.1 x.drop.2.2.length x.drop.2.1, .slice x.bytes.1 x.bytes.2.2.length x.bytes.2.1, .slice x.keep.1 x.keep.2.2.length x.keep.2.1, .int .i64 x.torn, .int .i64 x.cut] from rfl] at HCt
      go_upto_region 10 with (go_at_call 34; (with_reducible refine HCt.out.mono ?_); rintro e w5 ⟨rfl, hk⟩; have HK5 := Lib.hid hk; clear hk)
      have hs6 := (HD.out.2.new HK5.out).allocPt 67 #[.int .i64 yq, .int .i64 yn, .int .i64 yk, .slice aA al.length ac, .slice dA dl.length dc, .slice bA bl.length bc, .slice kA kl.length kc, .int .i64 yt, .int .i64 yc]
      generalize hW : World.alloc w5 _ = w6
      have HS6 : Hid (Sat w (Pt w5.heap.size 67 #[.int .i64 yq, .int .i64 yn, .int .i64 yk, .slice aA al.length ac, .slice dA dl.length dc, .slice bA bl.length bc, .slice kA kl.length kc, .int .i64 yt, .int .i64 yc] * (SpaceP s d S * (Disk d D * (RSp r N v fs * (FrP fs * Emp))))) w6) := by unfold Hid; rw [← hW]; exact hs6
      have HI6 := Lib.hid (HD.out.1.mono (d := 2 + i) (by omega))
      have HI7 := Lib.hid HD.out.1
      clear hs6 hW HCt HK5 HD q0 q1 q2 q3 q4 q5 q6 q7 q8
      revert HS6
      generalize w5.heap.size = gx
      intro HS6
      obtain ⟨dn, hdn1, HWi⟩ : ∃ dn : Nat, dn ≤ 6 ∧ Hid (∀ W, Calls Try.prog 28 #[.int .i64 yq, .int .i64 0, .int .i64 6] W fun e w' => e = .returned (.int .i64 (dn : Int)) ∧ W = w') := ⟨wi yq 6, by have := wi_le yq 6 (by omega); omega, fun W => within0 _ 6 W (by omega) (by omega)⟩
      have z0 := HS6.out.cell 0; have z1 := HS6.out.cell 1; have z3 := HS6.out.cell 3; have z4 := HS6.out.cell 4; have z5 := HS6.out.cell 5
      simp only [List.getElem?_toArray, List.getElem?_cons_zero, List.getElem?_cons_succ] at z0 z1 z3 z4 z5
      go_upto_block 2 with (go_at_call 28; (with_reducible refine (HWi.out _).mono ?_); rintro e wx ⟨rfl, rfl⟩)
      go_cut [6, 7] (fun sv rv wx => ∃ (s r : Nat) (S : Spc) (D : Dk) (v : Value) (fs : List Rf), sv = .pointer (some ⟨s, 0, none⟩) ∧ rv = .pointer (some ⟨r, 0, none⟩) ∧ Hid (SpIn N (2 + i) D S fs ∧ Sat w (Pt gx 67 #[.int .i64 yq, .int .i64 yn, .int .i64 yk, .slice aA al.length ac, .slice dA dl.length dc, .slice bA bl.length bc, .slice kA kl.length kc, .int .i64 yt, .int .i64 yc] * (SpaceP s d S * (Disk d D * (RSp r N v fs * (FrP fs * Emp))))) wx))
      case first =>
        have hQ6 := HS6.out.of (show _ = SpaceP s d S * (Disk d D * (RSp r N v fs * (FrP fs * (Pt gx 67 #[.int .i64 yq, .int .i64 yn, .int .i64 yk, .slice aA al.length ac, .slice dA dl.length dc, .slice bA bl.length bc, .slice kA kl.length kc, .int .i64 yt, .int .i64 yc] * Emp)))) by ac_rfl)
        have HQ6 := Lib.hid hQ6
        clear hQ6
        obtain ⟨sf, lim, hlim, hgood⟩ := HI7.out.good
        have hcw := HI7.out.cnt.writes; have hcp := HI7.out.cnt.pend; have hca := HI7.out.armed
        have HGd := Lib.hid hgood
        clear hgood
        rcases (show dn = 0 ∨ dn = 1 ∨ dn = 2 ∨ dn = 5 ∨ (dn ≠ 0 ∧ dn ≠ 1 ∧ dn ≠ 2 ∧ dn ≠ 5) by omega) with h | h | h | h | ⟨h0, h1, h2, h5⟩
        · have e0 : ((dn : Int) == 0) = true := by rw [h]; rfl
          clear h
          have hal : al.length ≤ 30 := HYin.out.2.1
          have hdl : dl.length ≤ 30 := HYin.out.2.2.1
          have hdc : dl.length ≤ dc := HYin.out.1.drop.2.1
          have HSt : Hid (∀ W, Chg No w W → RdV W aA (al.flatMap fiI) ∧ RdV W dA (dl.map fun n => .int .i64 n)) := fun W hW => ⟨(HYin.out.1.new hW).add.1, (HYin.out.1.new hW).drop.1⟩
          have HFl : Hid ((al.flatMap fiI).length = al.length * 3) := fisM_len al
          have HFo : Hid (∀ u ∈ al.flatMap fiI, u.oneCell' = true) := fisM_ones al
          have z3a := (HS6.out.alloc' (.cells #[] 35)).cell 3
          simp only [List.getElem?_toArray, List.getElem?_cons_zero, List.getElem?_cons_succ] at z3a
          go_upto_region 13 with (at_builtin; refine wpList_appS rfl (.tmp 58) (.tmp 60) 36 rfl 35 i0 _ 3 24 Try.underlying36 hi0.out hz0.out hz1.out hz2.out rfl (by decide) (.slice (some ⟨w6.heap.size, 0, none⟩) 0 0) 0 [] rfl w _ (by exact (HS6.out.allocPt 35 #[]).row_pt (n := 0) (cap := 0) (size := 3) (Nat.le_refl _) (Nat.zero_le _) rfl) aA al.length ac (al.flatMap fiI) rfl (by exact (HSt.out _ (HS6.out.chg.alloc _)).1) HFl.out HFo.out (by unfold maxLen; omega) (by omega) ?_; intro A12 c12 w12 hs; rw [Nat.zero_add, List.nil_append] at hs; rw [Nat.zero_add]; have HS12 := Lib.hid hs; clear hs)
          have z3' := HS12.out.up2.cell 3; have z4' := HS12.out.up2.cell 4
          simp only [List.getElem?_toArray, List.getElem?_cons_zero, List.getElem?_cons_succ] at z3' z4'
          have HRs : Hid (Calls Try.prog 35 #[.pointer (some ⟨r, 0, none⟩), .slice aA al.length ac, .slice dA dl.length dc] w12 (SwZ w (SpaceP s d S * (Disk d D * (FrP fs * (Row 35 3 (.slice A12 al.length c12) al.length (al.flatMap fiI) * (Pt gx 67 #[.int .i64 yq, .int .i64 yn, .int .i64 yk, .slice aA al.length ac, .slice dA dl.length dc, .slice bA bl.length bc, .slice kA kl.length kc, .int .i64 yt, .int .i64 yc] * Emp))))) r N v fs al dl)) :=
            rswitch_any aA dA ac dc (HS12.out.of (show _ = RSp r N v fs * (SpaceP s d S * (Disk d D * (FrP fs * (Row 35 3 (.slice A12 al.length c12) al.length (al.flatMap fiI) * (Pt gx 67 #[.int .i64 yq, .int .i64 yn, .int .i64 yk, .slice aA al.length ac, .slice dA dl.length dc, .slice bA bl.length bc, .slice kA kl.length kc, .int .i64 yt, .int .i64 yc] * Emp))))) by ac_rfl)) (by omega) HI7.out.few (Sat.fr_ok (h := HQ6.out.up4)) HI7.out.lie (fun W hW => (HSt.out W hW.chg).1) hal (fun W hW => (HSt.out W hW.chg).2) hdl hdc
          have HSw : Hid (∀ W (G : SP) (T : Spc) (E : Dk) (z : Int), S.switch al dl D = (T, E, z) → Sat w (SpaceP s d S * (Disk d D * (Row 35 3 (.slice A12 al.length c12) al.length (al.flatMap fiI) * G))) W → Calls Try.prog 17 #[.pointer (some ⟨s, 0, none⟩), .slice A12 al.length c12, .slice dA dl.length dc] W fun e w' => e = .returned (.int .i64 z) ∧ Sat w (SpaceP s d T * (Disk d E * (Row 35 3 (.slice A12 al.length c12) al.length (al.flatMap fiI) * G))) w') := fun W G T E z hq hW => by
            have h9 := switch_sp A12 c12 al dA dc dl HGd.out (by omega) hW (fun W hW => hW.row_rdvX) (fun W hW => (HSt.out W hW.chg).2) (by omega) (by omega) hdc (fun f hf => ⟨(HYin.out.1.add.2.2.2.2 f hf).1, (HYin.out.1.add.2.2.2.2 f hf).2.2⟩) (fun n hn => HYin.out.1.drop.2.2.2.2 n hn) (by omega) (by omega) (by omega)
            unfold SwX at h9
            rw [hq] at h9
            exact h9
          have HSa : Hid (∀ W (G : SP), Sat w (Row 35 3 (.slice A12 al.length c12) al.length (al.flatMap fiI) * G) W → Calls Try.prog 36 #[.slice A12 al.length c12, .slice aA al.length ac] W fun e w' => e = .returned (.bool true) ∧ ∃ n, w' = W.drewN n) := fun W G hW => rsame_any true A12 aA c12 ac al al W (by simp) hW.row_rdvX (HSt.out W hW.chg).1 (by omega) (by omega)
          clear z0 z1 z3 z4 z5 z3a
          go_upto_region 14 with (go_at_call 35; (with_reducible refine HRs.out.mono ?_); rintro e w13 (⟨z, rfl, hs, hz⟩ | ⟨t, v2, ts, rfl, ga, gd, h24, hr, hv2, hs⟩))
          · have HS13 := Lib.hid (hs.of (show _ = SpaceP s d S * (Disk d D * (Row 35 3 (.slice A12 al.length c12) al.length (al.flatMap fiI) * (RSp r N v fs * (FrP fs * (Pt gx 67 #[.int .i64 yq, .int .i64 yn, .int .i64 yk, .slice aA al.length ac, .slice dA dl.length dc, .slice bA bl.length bc, .slice kA kl.length kc, .int .i64 yt, .int .i64 yc] * Emp))))) by ac_rfl))
            have HSn := Lib.hid (HI7.out.sw_no (add := al) (drop := dl) (z := z) (by omega) (by simp only [Int.not_lt]; exact hz))
            have hzz : (z != z) = false := by simp
            have z3 := HS13.out.up6.cell 3; have z4 := HS13.out.up6.cell 4
            simp only [List.getElem?_toArray, List.getElem?_cons_zero, List.getElem?_cons_succ] at z3 z4
            clear hs hz z3' z4' hcw hcp hca hlim
            go_wp2_with (first
              | (go_at_call 17; (with_reducible refine (HSw.out _ _ _ _ _ HSn.out HS13.out).mono ?_); rintro e w14 ⟨rfl, hs⟩; have HS14 := Lib.hid hs; have y3 := hs.up6.cell 3; simp only [List.getElem?_toArray, List.getElem?_cons_zero, List.getElem?_cons_succ] at y3; clear hs)
              | (go_at_call 27; (with_reducible refine (num3_any _ _).mono ?_); rintro e wx ⟨rfl, rfl⟩)
              | (go_at_call 36; (with_reducible refine (HSa.out _ _ HS14.out.up3).mono ?_); rintro e w15 ⟨rfl, hn⟩; have HS15 : Hid (Sat w (SpaceP s d S * (Disk d D * (Row 35 3 (.slice A12 al.length c12) al.length (al.flatMap fiI) * (RSp r N v fs * (FrP fs * (Pt gx 67 #[.int .i64 yq, .int .i64 yn, .int .i64 yk, .slice aA al.length ac, .slice dA dl.length dc, .slice bA bl.length bc, .slice kA kl.length kc, .int .i64 yt, .int .i64 yc] * Emp)))))) w15) := (by obtain ⟨n, rfl⟩ := hn; exact HS14.out.drewN n); clear hn))
            go_meet
            exact ⟨s, r, S, D, v, fs, rfl, rfl, HI6.out, Sat.right (A := Row 35 3 (.slice A12 al.length c12) al.length (al.flatMap fiI)) (HS15.out.of (by ac_rfl))⟩
          · have HS13 := Lib.hid (hs.of (show _ = SpaceP s d S * (Disk d D * (Row 35 3 (.slice A12 al.length c12) al.length (al.flatMap fiI) * (RSp t N v2 ts * (RSp r N v fs * (FrP fs * (Pt gx 67 #[.int .i64 yq, .int .i64 yn, .int .i64 yk, .slice aA al.length ac, .slice dA dl.length dc, .slice bA bl.length bc, .slice kA kl.length kc, .int .i64 yt, .int .i64 yc] * Emp)))))) by ac_rfl))
            obtain ⟨T, E, hq, hI⟩ := HI7.out.sw_yes (by omega) ga gd (Int.not_lt.2 h24) hr
            have HSn := Lib.hid hq; have HIn := Lib.hid hI; have HRd := Lib.hid hr
            have z3 := HS13.out.right.up6.cell 3; have z4 := HS13.out.right.up6.cell 4
            simp only [List.getElem?_toArray, List.getElem?_cons_zero, List.getElem?_cons_succ] at z3 z4
            clear hs hr hq hI ga gd h24 hv2 z3' z4' hcw hcp hca hlim
            go_wp2_with (first
              | (go_at_call 17; (with_reducible refine (HSw.out _ _ _ _ _ HSn.out HS13.out).mono ?_); rintro e w14 ⟨rfl, hs⟩; have HS14 := Lib.hid hs; have y3 := hs.right.up6.cell 3; simp only [List.getElem?_toArray, List.getElem?_cons_zero, List.getElem?_cons_succ] at y3; clear hs)
              | (go_at_call 27; (with_reducible refine (num3_any _ _).mono ?_); rintro e wx ⟨rfl, rfl⟩)
              | (go_at_call 36; (with_reducible refine (HSa.out _ _ HS14.out.up3).mono ?_); rintro e w15 ⟨rfl, hn⟩; have HS15 : Hid (Sat w (SpaceP s d T * (Disk d E * (Row 35 3 (.slice A12 al.length c12) al.length (al.flatMap fiI) * (RSp t N v2 ts * (RSp r N v fs * (FrP fs * (Pt gx 67 #[.int .i64 yq, .int .i64 yn, .int .i64 yk, .slice aA al.length ac, .slice dA dl.length dc, .slice bA bl.length bc, .slice kA kl.length kc, .int .i64 yt, .int .i64 yc] * Emp))))))) w15) := (by obtain ⟨n, rfl⟩ := hn; exact HS14.out.drewN n); clear hn))
            go_meet
            refine ⟨s, t, T, E, v2, ts, rfl, rfl, HIn.out.mono (by omega), ?_⟩
            have h9 := Sat.fr_kept (drop := dl) fs (HS15.out.of (show _ = FrP fs * (SpaceP s d T * (Disk d E * (Row 35 3 (.slice A12 al.length c12) al.length (al.flatMap fiI) * (RSp t N v2 ts * (RSp r N v fs * (Pt gx 67 #[.int .i64 yq, .int .i64 yn, .int .i64 yk, .slice aA al.length ac, .slice dA dl.length dc, .slice bA bl.length bc, .slice kA kl.length kc, .int .i64 yt, .int .i64 yc] * Emp)))))) by ac_rfl))
            have h10 := Sat.fr_radd al _ _ ts HRd.out h9
            exact Sat.right (A := Row 35 3 (.slice A12 al.length c12) al.length (al.flatMap fiI) * RSp r N v fs) (h10.of (by ac_rfl))

        · have e0 : ((dn : Int) == 0) = false := by rw [h]; rfl
          have e1 : ((dn : Int) == 1) = true := by rw [h]; rfl
          clear h
          obtain ⟨T, E, z0, hq⟩ : ∃ T E z0, S.append yn bl D = (T, E, z0) := ⟨_, _, _, rfl⟩
          have HSame : Hid (∀ z fs', RAppR fs yn bl z fs' → z0 = z ∧ SpIn N (2 + i) E T fs') := fun z fs' hr => by
            obtain ⟨T', E', e, hI⟩ := HI7.out.app hr
            rw [hq] at e
            injection e with h1 e
            injection e with h2 h3
            subst h1; subst h2; subst h3
            exact ⟨rfl, hI.mono (by omega)⟩
          have HLe : Hid (Calls Try.prog 37 #[.slice bA bl.length bc] w6 fun e w' => ∃ g, e = .returned (.slice (some ⟨g, 0, none⟩) bl.length (bl.length + 2)) ∧ Sat w (Pt g 5 (Marked bl) * (Pt gx 67 #[.int .i64 yq, .int .i64 yn, .int .i64 yk, .slice aA al.length ac, .slice dA dl.length dc, .slice bA bl.length bc, .slice kA kl.length kc, .int .i64 yt, .int .i64 yc] * (SpaceP s d S * (Disk d D * (RSp r N v fs * (FrP fs * Emp)))))) w') := lendX bA bc bl HS6.out ((HYin.out.1.new HS6.out.chg).bytes.1) (by have := HYin.out.2.2.2; omega)
          have hbl6 : bl.length ≤ 600 := HYin.out.2.2.2
          go_upto_region 19 with (go_at_call 37; (with_reducible refine HLe.out.mono ?_); rintro e w7 ⟨gl, rfl, hs⟩; have HS7 := Lib.hid (hs.of (show _ = SpaceP s d S * (Disk d D * (RSp r N v fs * (FrP fs * (Pt gl 5 (Marked bl) * (Pt gx 67 #[.int .i64 yq, .int .i64 yn, .int .i64 yk, .slice aA al.length ac, .slice dA dl.length dc, .slice bA bl.length bc, .slice kA kl.length kc, .int .i64 yt, .int .i64 yc] * Emp))))) by ac_rfl)); clear hs)
          have HAp : Hid (∀ W, Sat w (SpaceP s d S * (Disk d D * (RSp r N v fs * (FrP fs * (Pt gl 5 (Marked bl) * (Pt gx 67 #[.int .i64 yq, .int .i64 yn, .int .i64 yk, .slice aA al.length ac, .slice dA dl.length dc, .slice bA bl.length bc, .slice kA kl.length kc, .int .i64 yt, .int .i64 yc] * Emp)))))) W → Calls Try.prog 29 #[.pointer (some ⟨s, 0, none⟩), .int .i64 yn, .slice (some ⟨gl, 0, none⟩) bl.length (bl.length + 2)] W fun e w' => e = .returned (.int .i64 z0) ∧ Sat w (SpaceP s d T * (Disk d E * (RSp r N v fs * (FrP fs * (Pt gl 5 (Marked bl) * (Pt gx 67 #[.int .i64 yq, .int .i64 yn, .int .i64 yk, .slice aA al.length ac, .slice dA dl.length dc, .slice bA bl.length bc, .slice kA kl.length kc, .int .i64 yt, .int .i64 yc] * Emp)))))) w') := fun W hW => by
            have h9 := append_sp yn (some ⟨gl, 0, none⟩) (bl.length + 2) bl HGd.out hW (fun W hW => marked_rd hW.up3.at) (by omega) (by omega) (by omega)
            rw [hq] at h9
            exact h9
          have HRa : Hid (∀ W, Sat w (SpaceP s d T * (Disk d E * (RSp r N v fs * (FrP fs * (Pt gl 5 (Marked bl) * (Pt gx 67 #[.int .i64 yq, .int .i64 yn, .int .i64 yk, .slice aA al.length ac, .slice dA dl.length dc, .slice bA bl.length bc, .slice kA kl.length kc, .int .i64 yt, .int .i64 yc] * Emp)))))) W → Calls Try.prog 38 #[.pointer (some ⟨r, 0, none⟩), .int .i64 yn, .slice bA bl.length bc] W fun e w' => ∃ z fs', e = .returned (.int .i64 z) ∧ Sat w (Pt gl 5 (Marked bl) * (SpaceP s d T * (Disk d E * (RSp r N v fs' * (FrP fs' * (Pt gx 67 #[.int .i64 yq, .int .i64 yn, .int .i64 yk, .slice aA al.length ac, .slice dA dl.length dc, .slice bA bl.length bc, .slice kA kl.length kc, .int .i64 yt, .int .i64 yc] * Emp)))))) w' ∧ RAppR fs yn bl z fs') := fun W hW => (rappend_any yn bA bc bl (hW.of (show _ = RSp r N v fs * (FrP fs * (SpaceP s d T * (Disk d E * (Pt gl 5 (Marked bl) * (Pt gx 67 #[.int .i64 yq, .int .i64 yn, .int .i64 yk, .slice aA al.length ac, .slice dA dl.length dc, .slice bA bl.length bc, .slice kA kl.length kc, .int .i64 yt, .int .i64 yc] * Emp))))) by ac_rfl)) (by have := HI7.out.few; omega) HI7.out.sizes (fun W hW => (HYin.out.1.new hW.chg).bytes.1) (by omega)).mono fun e w' ⟨z, fs', h1, h2, h3⟩ => ⟨z, fs', h1, h2.of (by ac_rfl), h3⟩
          have HBk : Hid (∀ W (fs' : List Rf), Sat w (Pt gl 5 (Marked bl) * (SpaceP s d T * (Disk d E * (RSp r N v fs' * (FrP fs' * (Pt gx 67 #[.int .i64 yq, .int .i64 yn, .int .i64 yk, .slice aA al.length ac, .slice dA dl.length dc, .slice bA bl.length bc, .slice kA kl.length kc, .int .i64 yt, .int .i64 yc] * Emp)))))) W → Calls Try.prog 39 #[.slice (some ⟨gl, 0, none⟩) bl.length (bl.length + 2), .slice bA bl.length bc] W fun e w' => e = .returned (.bool true) ∧ Sat w (SpaceP s d T * (Disk d E * (RSp r N v fs' * (FrP fs' * (Pt gx 67 #[.int .i64 yq, .int .i64 yn, .int .i64 yk, .slice aA al.length ac, .slice dA dl.length dc, .slice bA bl.length bc, .slice kA kl.length kc, .int .i64 yt, .int .i64 yc] * Emp))))) w') := fun W fs' hW => backX gl bA bc bl hW ((HYin.out.1.new hW.chg).bytes.1) (by omega)
          clear hq hcw hcp hca hlim
          refine wp_region_held_drew (S := fun w' => w'.cell? ⟨gx, 1, none⟩ = some (.int .i64 yn) ∧ w'.cell? ⟨gx, 5, none⟩ = some (.slice bA bl.length bc)) (by kernel_rfl) ⟨HS7.out.drew.up6.cell 1, HS7.out.drew.up6.cell 5⟩ ?_
          intro hS0
          refine rgn_take (i := 0) (v := ?rv1) rfl (by kernel_rfl) (by kernel_rfl) (by kernel_rfl) (fun _ _ _ h => h) (by rfl) ?rh1 (by assumption) ?rr1
          case rh1 => (intro w hSw; (try dsimp only at hSw); go_simp; try with_reducible rfl)
          simp only [Act.put, List.setIfInBounds_toArray, List.set_cons_zero, List.set_cons_succ]
          refine rgn_take (i := 1) (v := ?rv2) rfl (by kernel_rfl) (by kernel_rfl) (by kernel_rfl) (fun _ _ _ h => h) (by rfl) ?rh2 (by assumption) ?rr2
          case rh2 => (intro w hSw; (try dsimp only at hSw); go_simp; try with_reducible rfl)
          simp only [Act.put, List.setIfInBounds_toArray, List.set_cons_zero, List.set_cons_succ]
          refine rgn_take (i := 2) (v := ?rv3) rfl (by kernel_rfl) (by kernel_rfl) (by kernel_rfl) (fun _ _ _ h => h) (by rfl) ?rh3 (by assumption) ?rr3
          case rh3 => (intro w hSw; (try dsimp only at hSw); go_simp; try with_reducible rfl)
          simp only [Act.put, List.setIfInBounds_toArray, List.set_cons_zero, List.set_cons_succ]
          refine rgn_take (i := 3) (v := ?rv4) rfl (by kernel_rfl) (by kernel_rfl) (by kernel_rfl) (fun _ _ _ h => h) (by rfl) ?rh4 (by assumption) ?rr4
          case rh4 => (intro w hSw; (try dsimp only at hSw); go_simp; try with_reducible rfl)
          simp only [Act.put, List.setIfInBounds_toArray, List.set_cons_zero, List.set_cons_succ]
          refine rgn_take (i := 6) (v := ?rv5) rfl (by kernel_rfl) (by kernel_rfl) (by kernel_rfl) (fun _ _ _ h => h) (by rfl) ?rh5 (by assumption) ?rr5
          case rh5 => (intro w hSw; (try dsimp only at hSw); go_simp; try with_reducible rfl)
          simp only [Act.put, List.setIfInBounds_toArray, List.set_cons_zero, List.set_cons_succ]
          refine rgn_take (i := 7) (v := ?rv6) rfl (by kernel_rfl) (by kernel_rfl) (by kernel_rfl) (fun _ _ _ h => h) (by rfl) ?rh6 (by assumption) ?rr6
          case rh6 => (intro w hSw; (try dsimp only at hSw); go_simp; try with_reducible rfl)
          simp only [Act.put, List.setIfInBounds_toArray, List.set_cons_zero, List.set_cons_succ]
          refine rgn_take (i := 8) (v := ?rv7) rfl (by kernel_rfl) (by kernel_rfl) (by kernel_rfl) (fun _ _ _ h => h) (by rfl) ?rh7 (by assumption) ?rr7
          case rh7 => (intro w hSw; (try dsimp only at hSw); go_simp; try with_reducible rfl)
          simp only [Act.put, List.setIfInBounds_toArray, List.set_cons_zero, List.set_cons_succ]
          refine rgn_take (i := 9) (v := ?rv8) rfl (by kernel_rfl) (by kernel_rfl) (by kernel_rfl) (fun _ _ _ h => h) (by rfl) ?rh8 (by assumption) ?rr8
          case rh8 => (intro w hSw; (try dsimp only at hSw); go_simp; try with_reducible rfl)
          simp only [Act.put, List.setIfInBounds_toArray, List.set_cons_zero, List.set_cons_succ]
          refine rgn_take (i := 10) (v := ?rv9) rfl (by kernel_rfl) (by kernel_rfl) (by kernel_rfl) (fun _ _ _ h => h) (by rfl) ?rh9 (by assumption) ?rr9
          case rh9 => (intro w hSw; (try dsimp only at hSw); go_simp; try with_reducible rfl)
          simp only [Act.put, List.setIfInBounds_toArray, List.set_cons_zero, List.set_cons_succ]
          refine rgn_call (i := 4) rfl (by kernel_rfl) (fun K hK => ?_)
          go_simp
          go_at_call 29; (with_reducible refine (HAp.out _ HS7.out.drew).mono ?_); rintro e w8 ⟨rfl, hs⟩; have HS8 := Lib.hid hs; clear hs
          refine hK.out _ _ ⟨HS8.out.up6.cell 1, HS8.out.up6.cell 5⟩ (fun hS0 => ?_)
          clear hK K
          refine rgn_call (i := 5) rfl (by kernel_rfl) (fun K hK => ?_)
          go_simp
          go_at_call 27; (with_reducible refine (num3_any _ _).mono ?_); rintro e wx ⟨rfl, rfl⟩
          refine hK.out _ _ hS0 (fun hS0 => ?_)
          clear hK K
          refine rgn_call (i := 11) rfl (by kernel_rfl) (fun K hK => ?_)
          go_simp
          go_at_call 38; (with_reducible refine (HRa.out _ HS8.out).mono ?_); rintro e w9 ⟨z, fs', rfl, hs, hr⟩; obtain ⟨hz, hI9⟩ := HSame.out z fs' hr; have HS9 := Lib.hid hs; have HI9 := Lib.hid hI9; have hzz : (z0 != z) = false := (by rw [hz]; simp); clear hs hr hz hI9
          refine hK.out _ _ ⟨HS9.out.up6.cell 1, HS9.out.up6.cell 5⟩ (fun hS0 => ?_)
          clear hK K
          try simp only [hzz]
          refine rgn_take (i := 12) (v := ?rv14) rfl (by kernel_rfl) (by kernel_rfl) (by kernel_rfl) (fun _ _ _ h => h) (by rfl) ?rh14 (by assumption) ?rr14
          case rh14 => (intro w hSw; (try dsimp only at hSw); go_simp; try with_reducible rfl)
          simp only [Act.put, List.setIfInBounds_toArray, List.set_cons_zero, List.set_cons_succ]
          try simp only [hzz]
          refine rgn_take (i := 13) (v := ?rv16) rfl (by kernel_rfl) (by kernel_rfl) (by kernel_rfl) (fun _ _ _ h => h) (by rfl) ?rh16 (by assumption) ?rr16
          case rh16 => (intro w hSw; (try dsimp only at hSw); go_simp; try with_reducible rfl)
          simp only [Act.put, List.setIfInBounds_toArray, List.set_cons_zero, List.set_cons_succ]
          refine rgn_take (i := 14) (v := ?rv17) rfl (by kernel_rfl) (by kernel_rfl) (by kernel_rfl) (fun _ _ _ h => h) (by rfl) ?rh17 (by assumption) ?rr17
          case rh17 => (intro w hSw; (try dsimp only at hSw); go_simp; try with_reducible rfl)
          simp only [Act.put, List.setIfInBounds_toArray, List.set_cons_zero, List.set_cons_succ]
          refine rgn_take (i := 15) (v := ?rv18) rfl (by kernel_rfl) (by kernel_rfl) (by kernel_rfl) (fun _ _ _ h => h) (by rfl) ?rh18 (by assumption) ?rr18
          case rh18 => (intro w hSw; (try dsimp only at hSw); go_simp; try with_reducible rfl)
          simp only [Act.put, List.setIfInBounds_toArray, List.set_cons_zero, List.set_cons_succ]
          refine rgn_take (i := 16) (v := ?rv19) rfl (by kernel_rfl) (by kernel_rfl) (by kernel_rfl) (fun _ _ _ h => h) (by rfl) ?rh19 (by assumption) ?rr19
          case rh19 => (intro w hSw; (try dsimp only at hSw); go_simp; try with_reducible rfl)
          simp only [Act.put, List.setIfInBounds_toArray, List.set_cons_zero, List.set_cons_succ]
          refine rgn_call (i := 17) rfl (by kernel_rfl) (fun K hK => ?_)
          go_simp
          go_at_call 39; (with_reducible refine (HBk.out _ _ HS9.out).mono ?_); rintro e w10 ⟨rfl, hs⟩; have HS10 := Lib.hid hs; clear hs
          refine hK.out _ _ ⟨HS10.out.up5.cell 1, HS10.out.up5.cell 5⟩ (fun hS0 => ?_)
          clear hK K
          refine rgn_take (i := 18) (v := ?rv21) rfl (by kernel_rfl) (by kernel_rfl) (by kernel_rfl) (fun _ _ _ h => h) (by rfl) ?rh21 (by assumption) ?rr21
          case rh21 => (intro w hSw; (try dsimp only at hSw); go_simp; try with_reducible rfl)
          simp only [Act.put, List.setIfInBounds_toArray, List.set_cons_zero, List.set_cons_succ]
          refine rgn_take (i := 19) (v := ?rv22) rfl (by kernel_rfl) (by kernel_rfl) (by kernel_rfl) (fun _ _ _ h => h) (by rfl) ?rh22 (by assumption) ?rr22
          case rh22 => (intro w hSw; (try dsimp only at hSw); go_simp; try with_reducible rfl)
          simp only [Act.put, List.setIfInBounds_toArray, List.set_cons_zero, List.set_cons_succ]
          refine wpAnyH_done (by kernel_rfl) ?_ _
          go_wp2_with fail
          go_meet
          exact ⟨s, r, T, E, v, fs', rfl, rfl, HI9.out, HS10.out.of (by ac_rfl)⟩

        · have e0 : ((dn : Int) == 0) = false := by rw [h]; rfl
          have e1 : ((dn : Int) == 1) = false := by rw [h]; rfl
          have e2 : ((dn : Int) == 2) = true := by rw [h]; rfl
          clear h
          have HIy := Lib.hid HI7.out.sync
          have HSy : Hid (Calls Try.prog 20 #[.pointer (some ⟨s, 0, none⟩)] w6 fun e w' => e = .returned (.int .i64 0) ∧ Sat w (SpaceP s d S * (Disk d D.flush.1 * (RSp r N v fs * (FrP fs * (Pt gx 67 #[.int .i64 yq, .int .i64 yn, .int .i64 yk, .slice aA al.length ac, .slice dA dl.length dc, .slice bA bl.length bc, .slice kA kl.length kc, .int .i64 yt, .int .i64 yc] * Emp))))) w') := (sync_sp HQ6.out (by omega)).mono fun e w' ⟨h1, h2⟩ => ⟨by rw [h1, HIy.out.1], h2⟩
          have HRy : Hid (∀ W, Sat w (SpaceP s d S * (Disk d D.flush.1 * (RSp r N v fs * (FrP fs * (Pt gx 67 #[.int .i64 yq, .int .i64 yn, .int .i64 yk, .slice aA al.length ac, .slice dA dl.length dc, .slice bA bl.length bc, .slice kA kl.length kc, .int .i64 yt, .int .i64 yc] * Emp))))) W → Calls Try.prog 40 #[.pointer (some ⟨r, 0, none⟩)] W fun e w' => e = .returned (.tuple #[]) ∧ Sat w (Pt gx 67 #[.int .i64 yq, .int .i64 yn, .int .i64 yk, .slice aA al.length ac, .slice dA dl.length dc, .slice bA bl.length bc, .slice kA kl.length kc, .int .i64 yt, .int .i64 yc] * (SpaceP s d S * (Disk d D.flush.1 * (RSp r N v (fs.map syR) * (FrP (fs.map syR) * Emp))))) w') := fun W hW => (rsync_any hW.up3 (by have := HI7.out.few; omega) (Sat.fr_ok (h := hW.up4))).mono fun e w' ⟨h1, h2⟩ => ⟨h1, h2.of (by rw [frp_sy]; ac_rfl)⟩
          clear hcw hcp hca hlim
          go_wp2_with (first
            | (go_at_call 20; (with_reducible refine HSy.out.mono ?_); rintro e w7 ⟨rfl, hs⟩; have HS7 := Lib.hid hs; clear hs)
            | (go_at_call 40; (with_reducible refine (HRy.out _ HS7.out).mono ?_); rintro e w8 ⟨rfl, hs⟩; have HS8 := Lib.hid hs; clear hs)
            | (go_at_call 27; (with_reducible refine (num3_any _ _).mono ?_); rintro e wx ⟨rfl, rfl⟩))
          go_meet
          exact ⟨s, r, S, _, v, _, rfl, rfl, HIy.out.2.mono (by omega), HS8.out⟩
        · have e0 : ((dn : Int) == 0) = false := by rw [h]; rfl
          have e1 : ((dn : Int) == 1) = false := by rw [h]; rfl
          have e2 : ((dn : Int) == 2) = false := by rw [h]; rfl
          have e5 : ((dn : Int) == 5) = true := by rw [h]; rfl
          clear h
          obtain ⟨T, ho, hiT⟩ := HI7.out.opened (by omega)
          have HIT := Lib.hid hiT
          have HLn := Lib.hid HI7.out.len
          have HOp : Hid (Calls Try.prog 16 #[.pointer (some ⟨d, 0, none⟩)] w6 fun e w' => ∃ t, e = .returned (.tuple #[.pointer (some ⟨t, 0, none⟩), .int .i64 0]) ∧ Sat w (Pt gx 67 #[.int .i64 yq, .int .i64 yn, .int .i64 yk, .slice aA al.length ac, .slice dA dl.length dc, .slice bA bl.length bc, .slice kA kl.length kc, .int .i64 yt, .int .i64 yc] * (SpaceP t d T * (Disk d D * (RSp r N v fs * (FrP fs * Emp))))) w') := (open_any (HQ6.out.of (show _ = Disk d D * (SpaceP s d S * (RSp r N v fs * (FrP fs * (Pt gx 67 #[.int .i64 yq, .int .i64 yn, .int .i64 yk, .slice aA al.length ac, .slice dA dl.length dc, .slice bA bl.length bc, .slice kA kl.length kc, .int .i64 yt, .int .i64 yc] * Emp)))) by ac_rfl)) (by rw [HLn.out]; omega) (by rw [HLn.out]; omega)).mono fun e w' ⟨p, h1, h2⟩ => by
            rw [ho] at h1 h2
            obtain ⟨t, rfl⟩ := opt_some h2
            exact ⟨t, h1, Sat.right (A := SpaceP s d S) (h2.of (show SpaceP t d T * _ = _ by ac_rfl))⟩
          clear ho hiT hcw hcp hca hlim
          go_wp2_with (first
            | (go_at_call 16; (with_reducible refine HOp.out.mono ?_); rintro e w7 ⟨t, rfl, hs⟩; have HS7 := Lib.hid hs; clear hs)
            | (go_at_call 27; (with_reducible refine (num3_any _ _).mono ?_); rintro e wx ⟨rfl, rfl⟩))
          go_meet
          exact ⟨t, r, T, D, v, fs, rfl, rfl, HIT.out.mono (by omega), HS7.out⟩
        · have e0 : ((dn : Int) == 0) = false := by simp; omega
          have e1 : ((dn : Int) == 1) = false := by simp; omega
          have e2 : ((dn : Int) == 2) = false := by simp; omega
          have e5 : ((dn : Int) == 5) = false := by simp; omega
          clear h0 h1 h2 h5
          go_wp2_with fail
          go_meet
          exact ⟨s, r, S, D, v, fs, rfl, rfl, HI6.out, HS6.out⟩
      case rest =>
        obtain ⟨s, r, S, D, v, fs, rfl, rfl, HC⟩ := hcut
        obtain ⟨sf, lim, hlim, hgood⟩ := HC.out.1.good
        have HGd := Lib.hid hgood
        have HLn := Lib.hid HC.out.1.len
        have HQ := Lib.hid (HC.out.2.of (show _ = SpaceP s d S * (Disk d D * (RSp r N v fs * (FrP fs * (Pt gx 67 #[.int .i64 yq, .int .i64 yn, .int .i64 yk, .slice aA al.length ac, .slice dA dl.length dc, .slice bA bl.length bc, .slice kA kl.length kc, .int .i64 yt, .int .i64 yc] * Emp)))) by ac_rfl))
        have z1 := HC.out.2.cell 1
        simp only [List.getElem?_toArray, List.getElem?_cons_zero, List.getElem?_cons_succ] at z1
        have HAl : Hid (∀ W, Sat w (SpaceP s d S * (Disk d D * (RSp r N v fs * (FrP fs * (Pt gx 67 #[.int .i64 yq, .int .i64 yn, .int .i64 yk, .slice aA al.length ac, .slice dA dl.length dc, .slice bA bl.length bc, .slice kA kl.length kc, .int .i64 yt, .int .i64 yc] * Emp))))) W → Calls Try.prog 43 #[.pointer (some ⟨s, 0, none⟩), .pointer (some ⟨r, 0, none⟩)] W fun e w' => e = .returned (.bool true) ∧ Sat w (SpaceP s d S * (Disk d D * (RSp r N v fs * (FrP fs * (Pt gx 67 #[.int .i64 yq, .int .i64 yn, .int .i64 yk, .slice aA al.length ac, .slice dA dl.length dc, .slice bA bl.length bc, .slice kA kl.length kc, .int .i64 yt, .int .i64 yc] * Emp))))) w') := fun W hW => by
          have h9 := alike_any (v := v) (F := Pt gx 67 #[.int .i64 yq, .int .i64 yn, .int .i64 yk, .slice aA al.length ac, .slice dA dl.length dc, .slice bA bl.length bc, .slice kA kl.length kc, .int .i64 yt, .int .i64 yc] * Emp) (r := r) (d := d) (s := s) HGd.out HC.out.1.mat (by rw [HLn.out]; exact hW)
          rw [HLn.out] at h9
          exact h9
        have HFi : Hid (∀ W, Sat w (SpaceP s d S * (Disk d D * (RSp r N v fs * (FrP fs * (Pt gx 67 #[.int .i64 yq, .int .i64 yn, .int .i64 yk, .slice aA al.length ac, .slice dA dl.length dc, .slice bA bl.length bc, .slice kA kl.length kc, .int .i64 yt, .int .i64 yc] * Emp))))) W → Calls Try.prog 42 #[.pointer (some ⟨r, 0, none⟩), .int .i64 yn] W fun e w' => e = .returned (.int .i64 (findZ fs yn)) ∧ w' = W) := fun W hW => rfindZ_any yn hW.up3 (by have := HC.out.1.few; omega)
        have hfb := findB_find HC.out.1.mat.nums yn
        cases hf : S.find yn with
        | none =>
          rw [hf] at hfb
          have hz : findZ fs yn < 0 := by rw [findZ_no hfb.symm]; omega
          have HFr := Lib.hid (frames_sp_no HGd.out HQ.out hf)
          have HRm := Lib.hid (room_sp_no HGd.out HQ.out hf)
          clear hf hfb hgood
          generalize findZ fs yn = fz at *
          go_wp2_with (first
            | (go_at_call 30; (with_reducible refine HFr.out.mono ?_); rintro e wx ⟨rfl, rfl⟩)
            | (go_at_call 41; (with_reducible refine HRm.out.mono ?_); rintro e wx ⟨rfl, rfl⟩)
            | (go_at_call 42; (with_reducible refine (HFi.out _ HQ.out).mono ?_); rintro e wx ⟨rfl, rfl⟩)
            | (go_at_call 27; (with_reducible refine (num3_any _ _).mono ?_); rintro e wx ⟨rfl, rfl⟩)
            | (go_at_call 43; (with_reducible refine (HAl.out _ HQ.out).mono ?_); rintro e w9 ⟨rfl, hs⟩; have HS9 := Lib.hid hs; clear hs))
          go_roundw
          · exact ⟨i + 1, s, r, S, D, v, fs, by omega, by omega, rfl, rfl, by go_num, HC.out.1.mono (by omega), Sat.right (A := Pt gx 67 #[.int .i64 yq, .int .i64 yn, .int .i64 yk, .slice aA al.length ac, .slice dA dl.length dc, .slice bA bl.length bc, .slice kA kl.length kc, .int .i64 yt, .int .i64 yc]) (HS9.out.of (by ac_rfl))⟩
          · simp [intOf]; omega
        | some f =>
          rw [hf] at hfb
          have hz : ¬ findZ fs yn < 0 := by have := findZ_yes (fs := fs) (n := yn) hfb.symm; omega
          have HFr : Hid (Calls Try.prog 30 #[.pointer (some ⟨s, 0, none⟩), .int .i64 yn] wc fun e w' => ∃ u, e = .returned (.tuple #[u, .int .i64 0]) ∧ Sat w (SpaceP s d S * (Disk d D * (RSp r N v fs * (FrP fs * (Pt gx 67 #[.int .i64 yq, .int .i64 yn, .int .i64 yk, .slice aA al.length ac, .slice dA dl.length dc, .slice bA bl.length bc, .slice kA kl.length kc, .int .i64 yt, .int .i64 yc] * Emp))))) w') := (frames_sp HGd.out HQ.out hf).mono fun e w' ⟨u, ts, h1, h2, h3⟩ => ⟨u, h1, h3.right.right⟩
          have HRm : Hid (∀ W, Sat w (SpaceP s d S * (Disk d D * (RSp r N v fs * (FrP fs * (Pt gx 67 #[.int .i64 yq, .int .i64 yn, .int .i64 yk, .slice aA al.length ac, .slice dA dl.length dc, .slice bA bl.length bc, .slice kA kl.length kc, .int .i64 yt, .int .i64 yc] * Emp))))) W → Calls Try.prog 41 #[.pointer (some ⟨s, 0, none⟩), .int .i64 yn] W fun e w' => ∃ q : Int, e = .returned (.tuple #[.int .i64 q, .int .i64 0]) ∧ Sat w (SpaceP s d S * (Disk d D * (RSp r N v fs * (FrP fs * (Pt gx 67 #[.int .i64 yq, .int .i64 yn, .int .i64 yk, .slice aA al.length ac, .slice dA dl.length dc, .slice bA bl.length bc, .slice kA kl.length kc, .int .i64 yt, .int .i64 yc] * Emp))))) w') := fun W hW => (room_sp HGd.out hW hf).mono fun e w' ⟨h1, h2⟩ => ⟨_, h1, h2⟩
          have HZ1 : Hid (∀ W, Sat w (SpaceP s d S * (Disk d D * (RSp r N v fs * (FrP fs * (Pt gx 67 #[.int .i64 yq, .int .i64 yn, .int .i64 yk, .slice aA al.length ac, .slice dA dl.length dc, .slice bA bl.length bc, .slice kA kl.length kc, .int .i64 yt, .int .i64 yc] * Emp))))) W → W.cell? ⟨gx, 1, none⟩ = some (.int .i64 yn)) := fun W hW => hW.up5.cell 1
          clear hf hfb hgood
          generalize findZ fs yn = fz at *
          go_wp2_with (first
            | (go_at_call 30; (with_reducible refine HFr.out.mono ?_); rintro e w7 ⟨u, rfl, hs⟩; have HS7 := Lib.hid hs; have z1' := HZ1.out _ hs; clear hs)
            | (go_at_call 41; (with_reducible refine (HRm.out _ HS7.out).mono ?_); rintro e w8 ⟨q, rfl, hs⟩; have HS8 := Lib.hid hs; have z1'' := HZ1.out _ hs; clear hs)
            | (go_at_call 42; (with_reducible refine (HFi.out _ HS8.out).mono ?_); rintro e wx ⟨rfl, rfl⟩)
            | (go_at_call 27; (with_reducible refine (num3_any _ _).mono ?_); rintro e wx ⟨rfl, rfl⟩)
            | (go_at_call 43; (with_reducible refine (HAl.out _ HS8.out).mono ?_); rintro e w9 ⟨rfl, hs⟩; have HS9 := Lib.hid hs; clear hs))
          go_roundw
          · exact ⟨i + 1, s, r, S, D, v, fs, by omega, by omega, rfl, rfl, by go_num, HC.out.1.mono (by omega), Sat.right (A := Pt gx 67 #[.int .i64 yq, .int .i64 yn, .int .i64 yk, .slice aA al.length ac, .slice dA dl.length dc, .slice bA bl.length bc, .slice kA kl.length kc, .int .i64 yt, .int .i64 yc]) (HS9.out.of (by ac_rfl))⟩
          · simp [intOf]; omega
    · have hlt' : ¬ ((i : Int) < ss.length ∧ (i : Int) < 80) := by omega
      obtain ⟨sf, lim, h1, h2⟩ := HD.out.1.good
      have HLn := Lib.hid HD.out.1.len
      have HAl : Hid (Calls Try.prog 43 #[.pointer (some ⟨s, 0, none⟩), .pointer (some ⟨r, 0, none⟩)] wr fun e w' => e = .returned (.bool true) ∧ Sat w (SpaceP s d S * (Disk d D * (RSp r N v fs * (FrP fs * Emp)))) w') := by
        have h9 := alike_any (v := v) (F := Emp) (r := r) (d := d) (s := s) h2 HD.out.1.mat (by rw [HLn.out]; exact HD.out.2)
        rw [HLn.out] at h9
        exact h9
      go_wp2_with (go_at_call 43; (with_reducible refine HAl.out.mono ?_); rintro e w9 ⟨rfl, hs⟩; have HS9 := Lib.hid hs; clear hs)
      all_goals
        go_ret
        exact ⟨rfl, HS9.out.chg⟩
end Go.Proofs.Ytjmapbhgjhlefaa
