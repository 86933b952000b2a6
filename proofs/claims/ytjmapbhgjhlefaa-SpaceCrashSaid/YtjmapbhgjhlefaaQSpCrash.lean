/- SpaceCrash: the walk. -/
import Derived.Deep.CutBlock
import Derived.Test.YtjmapbhgjhlefaaQ14
import Derived.Test.YtjmapbhgjhlefaaQSprW
namespace Go.Proofs.Ytjmapbhgjhlefaa
open Go.RowKit
set_option linter.unusedVariables false
set_option maxRecDepth 100000

set_option maxHeartbeats 8000000 in
theorem spaceCrash_walk (bk : Int) (A : Option Addr) (c : Nat) (ss : List StD) (w : World) (hbk : -9223372036854775808 ≤ bk ∧ bk ≤ 9223372036854775807) (hp : StsIn w A c ss) :
    Calls Try.prog 9 #[.int .i64 bk, .slice A ss.length c] w (Asked true w) := by
  obtain ⟨i0, hi0', hz0', hz1', hz2'⟩ := info_parts fileT
  have hi0 := Lib.hid hi0'; have hz0 := Lib.hid hz0'; have hz1 := Lib.hid hz1'; have hz2 := Lib.hid hz2'
  obtain ⟨N, hN⟩ : ∃ n : Nat, (n : Int) = 8 + bk % 32 := ⟨(8 + bk % 32).toNat, by omega⟩
  have hN2 : 8 ≤ N ∧ N ≤ 39 := by omega
  have hma : bits .and .i64 bk 31 = (N : Int) - 8 := by rw [and31]; omega
  have hka : (8 : Int) + ((N : Int) - 8) = N := by omega
  have HB : Hid (Calls Try.prog 24 #[.int .i64 (N : Int)] w fun e w' => ∃ d s, e = .returned (.tuple #[.pointer (some ⟨d, 0, none⟩), .pointer (some ⟨s, 0, none⟩)]) ∧ Sat w (SpaceP s d ⟨1, 1, []⟩ * (Disk d (beginD N) * Emp)) w') := begin_any (w0 := w) (F := Emp) N (by omega) (Sat.start w)
  have HI := Lib.hid (CrIn.begins (N := N) (by omega))
  have HP := Lib.hid hp
  clear hi0' hz0' hz1' hz2' hbk hp hN
  go_enter Try.func9, Try.ntmps9
  go_upto_region 3 with (go_at_call 24; (with_reducible refine HB.out.mono ?_); rintro e w2 ⟨d, s, rfl, hs⟩; have HS2 := Lib.hid hs; clear hs)
  clear HB
  have HWk := Lib.hid (wakes3_any HS2.out)
  go_upto_region 5 with (go_at_call 26; (with_reducible refine HWk.out.mono ?_); rintro e w3 ⟨rfl, hs⟩; have HS3 := Lib.hid hs; clear hs)
  clear HS2 HWk hma hka
  have h4 := HS3.out.allocPt 65 #[.int .i64 (N : Int), .slice none 0 0]
  go_upto_region 6 with fail
  generalize hW : World.alloc w3 _ = w4
  have hs4 : Sat w (Pt w3.heap.size 65 #[.int .i64 (N : Int), .slice none 0 0] * (SpaceP s d ⟨1, 1, []⟩ * (Disk d (beginD N) * Emp))) w4 := by rw [← hW]; exact h4
  clear h4 hW HS3
  revert hs4
  generalize w3.heap.size = r
  intro hs4
  have HS4 : Hid (Sat w (SpaceP s d ⟨1, 1, []⟩ * (Disk d (beginD N) * (RSp r N (.slice none 0 0) [] * (FrP [] * Emp)))) w4) := (hs4.row_nil 125 5).of (by
    unfold RSp FrP
    show Row 125 5 (.slice none 0 0) 0 [] * (Pt r 65 #[.int .i64 (N : Int), .slice none 0 0] * (SpaceP s d ⟨1, 1, []⟩ * (Disk d (beginD N) * Emp))) = SpaceP s d ⟨1, 1, []⟩ * (Disk d (beginD N) * ((Pt r 65 #[.int .i64 (N : Int), .slice none 0 0] * Row 125 5 (.slice none 0 0) 0 []) * (Emp * Emp)))
    rw [emp_star]
    ac_rfl)
  clear hs4
  go_wp2_with fail
  go_loopw [6, 7, 8] (fun sv rv iv wr => ∃ (i s r : Nat) (S : Spc) (D : Dk) (v : Value) (fs : List Rf), i ≤ ss.length ∧ i ≤ 60 ∧ sv = .pointer (some ⟨s, 0, none⟩) ∧ rv = .pointer (some ⟨r, 0, none⟩) ∧ iv = .int .i64 (i : Int) ∧ Hid (CrIn N (1 + 2 * i) D S fs ∧ Sat w (SpaceP s d S * (Disk d D * (RSp r N v fs * (FrP fs * Emp)))) wr)) (fun _ _ iv _ => 60 - (intOf iv).toNat)
  case atStart => exact ⟨0, s, r, _, _, _, _, by omega, by omega, rfl, rfl, rfl, HI.out, HS4.out⟩
  case round =>
    obtain ⟨i, s, r, S, D, v, fs, hi, hi60, rfl, rfl, rfl, HD⟩ := hrel
    by_cases hlt : i < ss.length ∧ i < 60
    · have hk2 : (i : Int) < ss.length := by omega
      have hk3 : (i : Int) < 60 := by omega
      obtain ⟨b, o, rfl, hc⟩ := RdV.elem (f := stV) (k := 9) (fun _ => rfl) (by decide) (HP.out.2.2.1.new HD.out.2.chg) hlt.1
      have q0 : wr.cell? ⟨b, o + i * 9, none⟩ = some (.int .i64 ss[i].did) := hc 0 (by decide)
      have q1 : wr.cell? ⟨b, o + i * 9 + 1, none⟩ = some (.int .i64 ss[i].n) := hc 1 (by decide)
      have q2 : wr.cell? ⟨b, o + i * 9 + 2, none⟩ = some (.int .i64 ss[i].k) := hc 2 (by decide)
      have q3 : wr.cell? ⟨b, o + i * 9 + 3, none⟩ = some (.slice ss[i].add.1 ss[i].add.2.2.length ss[i].add.2.1) := hc 3 (by decide)
      have q4 : wr.cell? ⟨b, o + i * 9 + 4, none⟩ = some (.slice ss[i].drop.1 ss[i].drop.2.2.length ss[i].drop.2.1) := hc 4 (by decide)
      have q5 : wr.cell? ⟨b, o + i * 9 + 5, none⟩ = some (.slice ss[i].bytes.1 ss[i].bytes.2.2.length ss[i].bytes.2.1) := hc 5 (by decide)
      have q6 : wr.cell? ⟨b, o + i * 9 + 6, none⟩ = some (.slice ss[i].keep.1 ss[i].keep.2.2.length ss[i].keep.2.1) := hc 6 (by decide)
      have q7 : wr.cell? ⟨b, o + i * 9 + 7, none⟩ = some (.int .i64 ss[i].torn) := hc 7 (by decide)
      have q8 : wr.cell? ⟨b, o + i * 9 + 8, none⟩ = some (.int .i64 ss[i].cut) := hc 8 (by decide)
      have hxin := HP.out.2.2.2.2 ss[i] (List.getElem_mem hlt.1)
      clear hc
      generalize ss[i] = x at *
      have HCt := Lib.hid (scut_any x wr (hxin.new HD.out.2.chg))
      obtain ⟨y, hy⟩ : ∃ y, y = cutSt x := ⟨_, rfl⟩
      have HYin : Hid (StIn w y ∧ y.add.2.2.length ≤ 30 ∧ y.drop.2.2.length ≤ 30 ∧ y.bytes.2.2.length ≤ 600) := by rw [hy]; exact cutSt_in hxin
      rw [← hy] at HCt
      clear hy hxin
      obtain ⟨yq, yn, yk, ⟨aA, ac, al⟩, ⟨dA, dc, dl⟩, ⟨bA, bc, bl⟩, ⟨kA, kc, kl⟩, yt, yc⟩ := y
      dsimp only at HYin
      unfold stA at HCt
      rw [show stV ⟨yq, yn, yk, (aA, ac, al), (dA, dc, dl), (bA, bc, bl), (kA, kc, kl), yt, yc⟩ = [.int .i64 yq, .int .i64 yn, .int .i64 yk, .slice aA al.length ac, .slice dA dl.length dc, .slice bA bl.length bc, .slice kA kl.length kc, .int .i64 yt, .int .i64 yc] from rfl] at HCt
      rw [show stV x = [.int .i64 x.did, .int .i64 x.n, .int .i64 x.k, .slice x.add.1 x.add.2.2.length x.add.2.1, .slice x.drop.1 x.drop.2.2.length x.drop.2.1, .slice x.bytes.1 x.bytes.2.2.length x.bytes.2.1, .slice x.keep.1 x.keep.2.2.length x.keep.2.1, .int .i64 x.torn, .int .i64 x.cut] from rfl] at HCt
      go_upto_region 10 with (go_at_call 34; (with_reducible refine HCt.out.mono ?_); rintro e w5 ⟨rfl, hk⟩; have HK5 := Lib.hid hk; clear hk)
      have hs6 := (HD.out.2.new HK5.out).allocPt 67 #[.int .i64 yq, .int .i64 yn, .int .i64 yk, .slice aA al.length ac, .slice dA dl.length dc, .slice bA bl.length bc, .slice kA kl.length kc, .int .i64 yt, .int .i64 yc]
      generalize hW : World.alloc w5 _ = w6
      have HS6 : Hid (Sat w (Pt w5.heap.size 67 #[.int .i64 yq, .int .i64 yn, .int .i64 yk, .slice aA al.length ac, .slice dA dl.length dc, .slice bA bl.length bc, .slice kA kl.length kc, .int .i64 yt, .int .i64 yc] * (SpaceP s d S * (Disk d D * (RSp r N v fs * (FrP fs * Emp))))) w6) := by unfold Hid; rw [← hW]; exact hs6
      have HI6 := Lib.hid (HD.out.1.mono (d := 3 + 2 * i) (by omega))
      have HI7 := Lib.hid HD.out.1
      clear hs6 hW HCt HK5 HD q0 q1 q2 q3 q4 q5 q6 q7 q8
      revert HS6
      generalize w5.heap.size = gx
      intro HS6
      obtain ⟨dn, hdn1, HWi⟩ : ∃ dn : Nat, dn ≤ 6 ∧ Hid (∀ W, Calls Try.prog 28 #[.int .i64 yq, .int .i64 0, .int .i64 6] W fun e w' => e = .returned (.int .i64 (dn : Int)) ∧ W = w') := ⟨wi yq 6, by have := wi_le yq 6 (by omega); omega, fun W => within0 _ 6 W (by omega) (by omega)⟩
      have z0 := HS6.out.cell 0; have z1 := HS6.out.cell 1; have z2 := HS6.out.cell 2; have z6 := HS6.out.cell 6; have z7 := HS6.out.cell 7; have z8 := HS6.out.cell 8; have z3 := HS6.out.cell 3; have z4 := HS6.out.cell 4; have z5 := HS6.out.cell 5
      simp only [List.getElem?_toArray, List.getElem?_cons_zero, List.getElem?_cons_succ] at z0 z1 z2 z3 z4 z5 z6 z7 z8
      go_upto_block 2 with (go_at_call 28; (with_reducible refine (HWi.out _).mono ?_); rintro e wx ⟨rfl, rfl⟩)
      go_cut [6, 7, 10, 11, 12] (fun sv rv ov ev fv wx => ∃ (s r o : Nat) (S : Spc) (D : Dk) (v : Value) (fs : List Rf) (e f : Int), sv = .pointer (some ⟨s, 0, none⟩) ∧ rv = .pointer (some ⟨r, 0, none⟩) ∧ ov = .pointer (some ⟨o, 0, none⟩) ∧ ev = .int .i64 e ∧ fv = .int .i64 f ∧ Hid (CutC w (Pt gx 67 #[.int .i64 yq, .int .i64 yn, .int .i64 yk, .slice aA al.length ac, .slice dA dl.length dc, .slice bA bl.length bc, .slice kA kl.length kc, .int .i64 yt, .int .i64 yc] * Emp) N (3 + 2 * i) d s r o S D v fs e f wx))
      case first =>
        have hQ6 := HS6.out.of (show _ = SpaceP s d S * (Disk d D * (RSp r N v fs * (FrP fs * (Pt gx 67 #[.int .i64 yq, .int .i64 yn, .int .i64 yk, .slice aA al.length ac, .slice dA dl.length dc, .slice bA bl.length bc, .slice kA kl.length kc, .int .i64 yt, .int .i64 yc] * Emp)))) by ac_rfl)
        have HQ6 := Lib.hid hQ6
        clear hQ6
        obtain ⟨sf, lim, hlim, hgood, hsafe⟩ := HI7.out.good
        have hcw := HI7.out.cnt.writes; have hcp := HI7.out.cnt.pend; have hca := HI7.out.armed
        have HGd := Lib.hid hgood
        have HLn := Lib.hid HI7.out.len
        clear hgood hsafe
        rcases (show dn = 0 ∨ dn = 1 ∨ dn = 2 ∨ dn = 3 ∨ dn = 4 ∨ (dn ≠ 0 ∧ dn ≠ 1 ∧ dn ≠ 2 ∧ dn ≠ 3 ∧ dn ≠ 4) by omega) with h | h | h | h | h | ⟨h0, h1, h2, h3, h4⟩
        · have e0 : ((dn : Int) == 0) = true := by rw [h]; rfl
          clear h
          have hal : al.length ≤ 30 := HYin.out.2.1
          have hdl : dl.length ≤ 30 := HYin.out.2.2.1
          have hdc : dl.length ≤ dc := HYin.out.1.drop.2.1
          have HSt : Hid (∀ W, Chg No w W → RdV W aA (al.flatMap fiI) ∧ RdV W dA (dl.map fun n => .int .i64 n)) := fun W hW => ⟨(HYin.out.1.new hW).add.1, (HYin.out.1.new hW).drop.1⟩
          have HRs : Hid (Calls Try.prog 35 #[.pointer (some ⟨r, 0, none⟩), .slice aA al.length ac, .slice dA dl.length dc] w6 (SwZ w (SpaceP s d S * (Disk d D * (FrP fs * (Pt gx 67 #[.int .i64 yq, .int .i64 yn, .int .i64 yk, .slice aA al.length ac, .slice dA dl.length dc, .slice bA bl.length bc, .slice kA kl.length kc, .int .i64 yt, .int .i64 yc] * Emp)))) r N v fs al dl)) :=
            rswitch_any aA dA ac dc (HQ6.out.of (show _ = RSp r N v fs * (SpaceP s d S * (Disk d D * (FrP fs * (Pt gx 67 #[.int .i64 yq, .int .i64 yn, .int .i64 yk, .slice aA al.length ac, .slice dA dl.length dc, .slice bA bl.length bc, .slice kA kl.length kc, .int .i64 yt, .int .i64 yc] * Emp)))) by ac_rfl)) (by omega) HI7.out.few (Sat.fr_ok (h := HQ6.out.up4)) HI7.out.lie (fun W hW => (HSt.out W hW.chg).1) hal (fun W hW => (HSt.out W hW.chg).2) hdl hdc
          have HSw : Hid (∀ W (G : SP) (T : Spc) (E : Dk) (z : Int), S.switch al dl D = (T, E, z) → Sat w (SpaceP s d S * (Disk d D * G)) W → Calls Try.prog 17 #[.pointer (some ⟨s, 0, none⟩), .slice aA al.length ac, .slice dA dl.length dc] W fun e w' => e = .returned (.int .i64 z) ∧ Sat w (SpaceP s d T * (Disk d E * G)) w') := fun W G T E z hq hW => by
            have h9 := switch_sp aA ac al dA dc dl HGd.out (by omega) hW (fun W hW => (HSt.out W hW.chg).1) (fun W hW => (HSt.out W hW.chg).2) (by omega) (by omega) hdc (fun f hf => ⟨(HYin.out.1.add.2.2.2.2 f hf).1, (HYin.out.1.add.2.2.2.2 f hf).2.2⟩) (fun n hn => HYin.out.1.drop.2.2.2.2 n hn) (by omega) (by omega) (by omega)
            unfold SwX at h9
            rw [hq] at h9
            exact h9
          have HFv := Lib.hid (Sat.fr_ok (h := HQ6.out.up4))
          go_upto_region 16 with (go_at_call 35; (with_reducible refine HRs.out.mono ?_); rintro e w13 (⟨z, rfl, hs, hz⟩ | ⟨t, v2, ts, rfl, ga, gd, h24, hr, hv2, hs⟩))
          · have HS13 := Lib.hid (hs.of (show _ = SpaceP s d S * (Disk d D * (RSp r N v fs * (FrP fs * (Pt gx 67 #[.int .i64 yq, .int .i64 yn, .int .i64 yk, .slice aA al.length ac, .slice dA dl.length dc, .slice bA bl.length bc, .slice kA kl.length kc, .int .i64 yt, .int .i64 yc] * Emp)))) by ac_rfl))
            have HSn := Lib.hid (HI7.out.sw_no (add := al) (drop := dl) (z := z) (by omega) (by simp only [Int.not_lt]; exact hz))
            have hz0 : (z == 0) = false := by
              rcases hz with ⟨h, _⟩ | ⟨_, _, _, h⟩ | ⟨_, _, _, _, h⟩ <;> rw [h] <;> rfl
            have z3 := HS13.out.up5.cell 3; have z4 := HS13.out.up5.cell 4
            simp only [List.getElem?_toArray, List.getElem?_cons_zero, List.getElem?_cons_succ] at z3 z4
            have HUn : Hid (∀ W, Sat w (SpaceP s d S * (Disk d D * (RSp r N v fs * (FrP fs * (Pt gx 67 #[.int .i64 yq, .int .i64 yn, .int .i64 yk, .slice aA al.length ac, .slice dA dl.length dc, .slice bA bl.length bc, .slice kA kl.length kc, .int .i64 yt, .int .i64 yc] * Emp))))) W → Calls Try.prog 45 #[.pointer (some ⟨r, 0, none⟩), .pointer (some ⟨r, 0, none⟩)] W fun e w' => ∃ u, e = .returned (.pointer (some ⟨u, 0, none⟩)) ∧ Sat w (SpaceP s d S * (Disk d D * (RSp r N v fs * (FrP fs * (Pt gx 67 #[.int .i64 yq, .int .i64 yn, .int .i64 yk, .slice aA al.length ac, .slice dA dl.length dc, .slice bA bl.length bc, .slice kA kl.length kc, .int .i64 yt, .int .i64 yc] * Emp))))) w') := fun W hW => (unsafe_self hW.up3 HI7.out.few HFv.out).mono fun e w' ⟨u, h1, h2⟩ => ⟨u, h1, h2.of (by ac_rfl)⟩
            clear hs hz hcw hcp hca hlim
            go_wp2_with (first
              | (go_at_call 17; (with_reducible refine (HSw.out _ _ _ _ _ HSn.out HS13.out).mono ?_); rintro e w14 ⟨rfl, hs⟩; have HS14 := Lib.hid hs; clear hs)
              | (go_at_call 27; (with_reducible refine (num3_any _ _).mono ?_); rintro e wx ⟨rfl, rfl⟩)
              | (go_at_call 45; (with_reducible refine (HUn.out _ HS14.out).mono ?_); rintro e w15 ⟨u, rfl, hs⟩; have HS15 := Lib.hid hs; clear hs))
            go_meet
            exact ⟨s, r, u, S, D, v, fs, z, z, rfl, rfl, rfl, rfl, rfl, .on rfl HI6.out HS15.out⟩
          · have HS13 := Lib.hid (hs.of (show _ = SpaceP s d S * (Disk d D * (RSp t N v2 ts * (RSp r N v fs * (FrP fs * (Pt gx 67 #[.int .i64 yq, .int .i64 yn, .int .i64 yk, .slice aA al.length ac, .slice dA dl.length dc, .slice bA bl.length bc, .slice kA kl.length kc, .int .i64 yt, .int .i64 yc] * Emp))))) by ac_rfl))
            have hsy := HI7.out.sw_yes (by omega) ga gd (Int.not_lt.2 h24) hr
            have HRd := Lib.hid hr; have HGa := Lib.hid ga
            have HTl : Hid (ts.length ≤ 1000) := raddX_len hr HI7.out.few hal
            have HV2 := Lib.hid hv2
            have HUn : Hid (∀ W (S : Spc) (D : Dk), Sat w (SpaceP s d S * (Disk d D * (RSp t N v2 ts * (RSp r N v fs * (FrP fs * (Pt gx 67 #[.int .i64 yq, .int .i64 yn, .int .i64 yk, .slice aA al.length ac, .slice dA dl.length dc, .slice bA bl.length bc, .slice kA kl.length kc, .int .i64 yt, .int .i64 yc] * Emp)))))) W → Calls Try.prog 45 #[.pointer (some ⟨t, 0, none⟩), .pointer (some ⟨r, 0, none⟩)] W fun e w' => ∃ u v3, e = .returned (.pointer (some ⟨u, 0, none⟩)) ∧ Sat w (SpaceP s d S * (Disk d D * (RSp t N v2 ts * (RSp r N v fs * (RSp u N v3 (ts.map (unsR fs)) * (FrP fs * (Pt gx 67 #[.int .i64 yq, .int .i64 yn, .int .i64 yk, .slice aA al.length ac, .slice dA dl.length dc, .slice bA bl.length bc, .slice kA kl.length kc, .int .i64 yt, .int .i64 yc] * Emp))))))) w') := fun W S D hW => (unsafe_two (hW.of (show _ = RSp t N v2 ts * (RSp r N v fs * (SpaceP s d S * (Disk d D * (FrP fs * (Pt gx 67 #[.int .i64 yq, .int .i64 yn, .int .i64 yk, .slice aA al.length ac, .slice dA dl.length dc, .slice bA bl.length bc, .slice kA kl.length kc, .int .i64 yt, .int .i64 yc] * Emp))))) by ac_rfl)) HI7.out.few HTl.out HV2.out).mono fun e w' ⟨u, v3, h1, h2⟩ => ⟨u, v3, h1, h2.of (by ac_rfl)⟩
            have z3 := HS13.out.up6.cell 3; have z4 := HS13.out.up6.cell 4
            simp only [List.getElem?_toArray, List.getElem?_cons_zero, List.getElem?_cons_succ] at z3 z4
            clear hs hr ga gd h24 hv2 hcw hcp hca hlim
            rcases hsy with ⟨T, E, hq, hoE, hI⟩ | ⟨E, hq, hoE, hlE, hcE, hX⟩
            · have HSn := Lib.hid hq; have HIn := Lib.hid hI
              clear hq hI hoE
              go_wp2_with (first
                | (go_at_call 17; (with_reducible refine (HSw.out _ _ _ _ _ HSn.out HS13.out).mono ?_); rintro e w14 ⟨rfl, hs⟩; have HS14 := Lib.hid hs; clear hs)
                | (go_at_call 27; (with_reducible refine (num3_any _ _).mono ?_); rintro e wx ⟨rfl, rfl⟩)
                | (go_at_call 45; (with_reducible refine (HUn.out _ _ _ HS14.out).mono ?_); rintro e w15 ⟨u, v3, rfl, hs⟩; have HS15 := Lib.hid hs; clear hs))
              go_meet
              refine ⟨s, t, u, T, E, v2, ts, 0, 0, rfl, rfl, rfl, rfl, rfl, .on rfl (HIn.out.mono (by omega)) ?_⟩
              have h9 := Sat.fr_kept (drop := dl) fs (HS15.out.of (show _ = FrP fs * (SpaceP s d T * (Disk d E * (RSp t N v2 ts * (RSp r N v fs * (RSp u N v3 (ts.map (unsR fs)) * (Pt gx 67 #[.int .i64 yq, .int .i64 yn, .int .i64 yk, .slice aA al.length ac, .slice dA dl.length dc, .slice bA bl.length bc, .slice kA kl.length kc, .int .i64 yt, .int .i64 yc] * Emp)))))) by ac_rfl))
              have h10 := Sat.fr_radd al _ _ ts HRd.out h9
              exact Sat.right (A := RSp r N v fs * RSp u N v3 (ts.map (unsR fs))) (h10.of (by ac_rfl))
            · have HSn := Lib.hid hq; have HOE := Lib.hid hoE; have HLE := Lib.hid hlE; have HCE := Lib.hid hcE; have HX := Lib.hid hX
              clear hq hoE hlE hcE hX
              go_wp2_with (first
                | (go_at_call 17; (with_reducible refine (HSw.out _ _ _ _ _ HSn.out HS13.out).mono ?_); rintro e w14 ⟨rfl, hs⟩; have HS14 := Lib.hid hs; clear hs)
                | (go_at_call 27; (with_reducible refine (num3_any _ _).mono ?_); rintro e wx ⟨rfl, rfl⟩)
                | (go_at_call 45; (with_reducible refine (HUn.out _ _ _ HS14.out).mono ?_); rintro e w15 ⟨u, v3, rfl, hs⟩; have HS15 := Lib.hid hs; clear hs))
              go_meet
              exact ⟨s, r, u, S, E, v, fs, 21, 0, rfl, rfl, rfl, rfl, rfl, .two v3 (ts.map (unsR fs)) rfl HOE.out HLE.out (HCE.out.mono (by omega)) HI7.out.few (by rw [List.length_map]; exact HTl.out) (fun f hf => (HI7.out.sizes f hf).1) (uns_sz HRd.out (fun x hx => (HGa.out.each x hx).1.2.2) HI7.out.lie (fun f hf => (HI7.out.sizes f hf).1)) (fun W hW => uns_fr HRd.out (fun x hx => (HGa.out.each x hx).1.2.2) HI7.out.lie hW) (HX.out.mono (by omega)) (Sat.right (A := SpaceP s d S * RSp t N v2 ts) (HS15.out.of (by ac_rfl)))⟩

        · have e0 : ((dn : Int) == 0) = false := by rw [h]; rfl
          have e1 : ((dn : Int) == 1) = true := by rw [h]; rfl
          clear h
          have hbl6 : bl.length ≤ 600 := HYin.out.2.2.2
          have HRa : Hid (∀ W, Sat w (SpaceP s d S * (Disk d D * (RSp r N v fs * (FrP fs * (Pt gx 67 #[.int .i64 yq, .int .i64 yn, .int .i64 yk, .slice aA al.length ac, .slice dA dl.length dc, .slice bA bl.length bc, .slice kA kl.length kc, .int .i64 yt, .int .i64 yc] * Emp))))) W → Calls Try.prog 38 #[.pointer (some ⟨r, 0, none⟩), .int .i64 yn, .slice bA bl.length bc] W fun e w' => ∃ z fs', e = .returned (.int .i64 z) ∧ Sat w (SpaceP s d S * (Disk d D * (RSp r N v fs' * (FrP fs' * (Pt gx 67 #[.int .i64 yq, .int .i64 yn, .int .i64 yk, .slice aA al.length ac, .slice dA dl.length dc, .slice bA bl.length bc, .slice kA kl.length kc, .int .i64 yt, .int .i64 yc] * Emp))))) w' ∧ RAppR fs yn bl z fs') := fun W hW => (rappend_any yn bA bc bl (hW.of (show _ = RSp r N v fs * (FrP fs * (SpaceP s d S * (Disk d D * (Pt gx 67 #[.int .i64 yq, .int .i64 yn, .int .i64 yk, .slice aA al.length ac, .slice dA dl.length dc, .slice bA bl.length bc, .slice kA kl.length kc, .int .i64 yt, .int .i64 yc] * Emp)))) by ac_rfl)) (by have := HI7.out.few; omega) HI7.out.sizes (fun W hW => (HYin.out.1.new hW.chg).bytes.1) (by omega)).mono fun e w' ⟨z, fs', h1, h2, h3⟩ => ⟨z, fs', h1, h2.of (by ac_rfl), h3⟩
          go_upto_region 22 with (go_at_call 38; (with_reducible refine (HRa.out _ HQ6.out).mono ?_); rintro e w8 ⟨z, fs', rfl, hs, hr⟩; have HS8 := Lib.hid hs; have HRr := Lib.hid hr; clear hs hr)
          have hap := HI7.out.app HRr.out (by omega)
          have HLf : Hid (fs'.length = fs.length) := rapp_len HRr.out
          have HSz : Hid (∀ f ∈ fs', f.fr.length ≤ 65536) := rapp_sz HRr.out HI7.out.fits
          have y1 := HS8.out.up5.cell 1; have y5 := HS8.out.up5.cell 5
          simp only [List.getElem?_toArray, List.getElem?_cons_zero, List.getElem?_cons_succ] at y1 y5
          have HAp : Hid (∀ W, Sat w (SpaceP s d S * (Disk d D * (RSp r N v fs' * (FrP fs' * (Pt gx 67 #[.int .i64 yq, .int .i64 yn, .int .i64 yk, .slice aA al.length ac, .slice dA dl.length dc, .slice bA bl.length bc, .slice kA kl.length kc, .int .i64 yt, .int .i64 yc] * Emp))))) W → ∀ T E z0, S.append yn bl D = (T, E, z0) → Calls Try.prog 29 #[.pointer (some ⟨s, 0, none⟩), .int .i64 yn, .slice bA bl.length bc] W fun e w' => e = .returned (.int .i64 z0) ∧ Sat w (SpaceP s d T * (Disk d E * (RSp r N v fs' * (FrP fs' * (Pt gx 67 #[.int .i64 yq, .int .i64 yn, .int .i64 yk, .slice aA al.length ac, .slice dA dl.length dc, .slice bA bl.length bc, .slice kA kl.length kc, .int .i64 yt, .int .i64 yc] * Emp))))) w') := fun W hW T E z0 hq => by
            have h9 := append_sp yn bA bc bl HGd.out hW (fun W hW => (HYin.out.1.new hW.chg).bytes.1) (by omega) (by omega) (by omega)
            rw [hq] at h9
            exact h9
          clear hcw hcp hca hlim z0 z1 z2 z3 z4 z5 z6 z7 z8
          rcases hap with ⟨T, E, hq, hoE, hI⟩ | ⟨E, hq, hoE, hlE, hcE, hX⟩
          · have HAp2 := Lib.hid (HAp.out _ HS8.out T E z hq)
            have HIn := Lib.hid hI
            clear hq hI hoE HAp
            go_wp2_with (first
              | (go_at_call 29; (with_reducible refine HAp2.out.mono ?_); rintro e w9 ⟨rfl, hs⟩; have HS9 := Lib.hid hs; clear hs)
              | (go_at_call 27; (with_reducible refine (num3_any _ _).mono ?_); rintro e wx ⟨rfl, rfl⟩))
            go_meet
            exact ⟨s, r, r, T, E, v, fs', z, z, rfl, rfl, rfl, rfl, rfl, .on rfl (HIn.out.mono (by omega)) HS9.out⟩
          · have HAp2 := Lib.hid (HAp.out _ HS8.out S E 21 hq)
            have HOE := Lib.hid hoE; have HLE := Lib.hid hlE; have HCE := Lib.hid hcE; have HX := Lib.hid hX
            clear hq hoE hlE hcE hX HAp
            go_wp2_with (first
              | (go_at_call 29; (with_reducible refine HAp2.out.mono ?_); rintro e w9 ⟨rfl, hs⟩; have HS9 := Lib.hid hs; clear hs)
              | (go_at_call 27; (with_reducible refine (num3_any _ _).mono ?_); rintro e wx ⟨rfl, rfl⟩))
            go_meet
            exact ⟨s, r, r, S, E, v, fs', 21, z, rfl, rfl, rfl, rfl, rfl, .off rfl HOE.out HLE.out (HCE.out.mono (by omega)) rfl (by rw [HLf.out]; exact HI7.out.few) HSz.out ((HX.out fs').mono (by omega)) HS9.out.right⟩

        · have e0 : ((dn : Int) == 0) = false := by rw [h]; rfl
          have e1 : ((dn : Int) == 1) = false := by rw [h]; rfl
          have e2 : ((dn : Int) == 2) = true := by rw [h]; rfl
          clear h
          have HIy := Lib.hid HI7.out.sync
          have HSy : Hid (Calls Try.prog 20 #[.pointer (some ⟨s, 0, none⟩)] w6 fun e w' => e = .returned (.int .i64 0) ∧ Sat w (SpaceP s d S * (Disk d D.flush.1 * (RSp r N v fs * (FrP fs * (Pt gx 67 #[.int .i64 yq, .int .i64 yn, .int .i64 yk, .slice aA al.length ac, .slice dA dl.length dc, .slice bA bl.length bc, .slice kA kl.length kc, .int .i64 yt, .int .i64 yc] * Emp))))) w') := (sync_sp HQ6.out (by omega)).mono fun e w' ⟨h1, h2⟩ => ⟨by rw [h1, HIy.out.1], h2⟩
          have HRy : Hid (∀ W, Sat w (SpaceP s d S * (Disk d D.flush.1 * (RSp r N v fs * (FrP fs * (Pt gx 67 #[.int .i64 yq, .int .i64 yn, .int .i64 yk, .slice aA al.length ac, .slice dA dl.length dc, .slice bA bl.length bc, .slice kA kl.length kc, .int .i64 yt, .int .i64 yc] * Emp))))) W → Calls Try.prog 40 #[.pointer (some ⟨r, 0, none⟩)] W fun e w' => e = .returned (.tuple #[]) ∧ Sat w (SpaceP s d S * (Disk d D.flush.1 * (RSp r N v (fs.map syR) * (FrP (fs.map syR) * (Pt gx 67 #[.int .i64 yq, .int .i64 yn, .int .i64 yk, .slice aA al.length ac, .slice dA dl.length dc, .slice bA bl.length bc, .slice kA kl.length kc, .int .i64 yt, .int .i64 yc] * Emp))))) w') := fun W hW => (rsync_any hW.up3 (by have := HI7.out.few; omega) (Sat.fr_ok (h := hW.up4))).mono fun e w' ⟨h1, h2⟩ => ⟨h1, h2.of (by rw [frp_sy]; ac_rfl)⟩
          clear hcw hcp hca hlim
          go_wp2_with (first
            | (go_at_call 20; (with_reducible refine HSy.out.mono ?_); rintro e w7 ⟨rfl, hs⟩; have HS7 := Lib.hid hs; clear hs)
            | (go_at_call 40; (with_reducible refine (HRy.out _ HS7.out).mono ?_); rintro e w8 ⟨rfl, hs⟩; have HS8 := Lib.hid hs; clear hs)
            | (go_at_call 27; (with_reducible refine (num3_any _ _).mono ?_); rintro e wx ⟨rfl, rfl⟩))
          go_meet
          exact ⟨s, r, r, S, D.flush.1, v, fs.map syR, 0, 0, rfl, rfl, rfl, rfl, rfl, .on rfl (HIy.out.2.mono (by omega)) HS8.out⟩
        · have e0 : ((dn : Int) == 0) = false := by rw [h]; rfl
          have e1 : ((dn : Int) == 1) = false := by rw [h]; rfl
          have e2 : ((dn : Int) == 2) = false := by rw [h]; rfl
          have e3 : ((dn : Int) == 3) = true := by rw [h]; rfl
          clear h
          have HAr : Hid (∀ W, Sat w (SpaceP s d S * (Disk d D * (RSp r N v fs * (FrP fs * (Pt gx 67 #[.int .i64 yq, .int .i64 yn, .int .i64 yk, .slice aA al.length ac, .slice dA dl.length dc, .slice bA bl.length bc, .slice kA kl.length kc, .int .i64 yt, .int .i64 yc] * Emp))))) W → Calls Try.prog 18 #[.pointer (some ⟨d, 0, none⟩), .int .i64 yk] W fun e w' => e = .returned (.tuple #[]) ∧ Sat w (SpaceP s d S * (Disk d { D with armed := yk.toNat } * (RSp r N v fs * (FrP fs * (Pt gx 67 #[.int .i64 yq, .int .i64 yn, .int .i64 yk, .slice aA al.length ac, .slice dA dl.length dc, .slice bA bl.length bc, .slice kA kl.length kc, .int .i64 yt, .int .i64 yc] * Emp))))) w') := fun W hW => (arm_any d D yk w W _ (hW.up2)).mono fun e w' ⟨h1, h2⟩ => ⟨h1, h2.of (by ac_rfl)⟩
          have HKb : Hid (yk.toNat ≤ 9223372036854775807) := by have := HYin.out.1.k; unfold isI64 at this; dsimp only at this; unfold Hid; omega
          clear hcw hcp hca hlim
          go_wp2_with (go_at_call 18; (with_reducible refine (HAr.out _ HQ6.out).mono ?_); rintro e w7 ⟨rfl, hs⟩; have HS7 := Lib.hid hs; clear hs)
          go_meet
          exact ⟨s, r, r, S, _, v, fs, 0, 0, rfl, rfl, rfl, rfl, rfl, .on rfl ((HI7.out.arm HKb.out).mono (by omega)) HS7.out⟩
        · have e0 : ((dn : Int) == 0) = false := by rw [h]; rfl
          have e1 : ((dn : Int) == 1) = false := by rw [h]; rfl
          have e2 : ((dn : Int) == 2) = false := by rw [h]; rfl
          have e3 : ((dn : Int) == 3) = false := by rw [h]; rfl
          have e4 : ((dn : Int) == 4) = true := by rw [h]; rfl
          clear h
          have HOp : Hid (∀ W, Sat w (SpaceP s d S * (Disk d D * (RSp r N v fs * (FrP fs * (Pt gx 67 #[.int .i64 yq, .int .i64 yn, .int .i64 yk, .slice aA al.length ac, .slice dA dl.length dc, .slice bA bl.length bc, .slice kA kl.length kc, .int .i64 yt, .int .i64 yc] * Emp))))) W → Calls Try.prog 46 #[.pointer (some ⟨d, 0, none⟩), .pointer (some ⟨r, 0, none⟩), .pointer (some ⟨r, 0, none⟩), .agg #[.int .i64 yq, .int .i64 yn, .int .i64 yk, .slice aA al.length ac, .slice dA dl.length dc, .slice bA bl.length bc, .slice kA kl.length kc, .int .i64 yt, .int .i64 yc]] W (Anew w (Pt gx 67 #[.int .i64 yq, .int .i64 yn, .int .i64 yk, .slice aA al.length ac, .slice dA dl.length dc, .slice bA bl.length bc, .slice kA kl.length kc, .int .i64 yt, .int .i64 yc] * Emp) N (3 + 2 * i) d)) := fun W hW => (anew_one (F := Pt gx 67 #[.int .i64 yq, .int .i64 yn, .int .i64 yk, .slice aA al.length ac, .slice dA dl.length dc, .slice bA bl.length bc, .slice kA kl.length kc, .int .i64 yt, .int .i64 yc] * Emp) (c := 3 + 2 * i) yq yn yk yt yc aA dA bA kA ac dc bc kc al dl bl kl (by omega) (by omega) HLn.out (HI7.out.cnt.mono (by omega)) HYin.out.1.keep.1 HYin.out.1.keep.2.2 HI7.out.few (fun f hf => (HI7.out.sizes f hf).1) (by
            have h9 := (HI7.out.mono (d := 2 + 2 * i) (by omega)).off (by omega) fs
            exact h9.mono (by omega)) _ hW.right)
          clear hcw hcp hca hlim
          go_wp2_with (go_at_call 46; (with_reducible refine (HOp.out _ HQ6.out).mono ?_); rintro e w7 ⟨s2, t2, T, E, v2, ts, rfl, hi2, hs⟩; have HS7 := Lib.hid hs; have HI2 := Lib.hid hi2; clear hs hi2)
          go_meet
          exact ⟨s2, t2, r, T, E, v2, ts, 0, 0, rfl, rfl, rfl, rfl, rfl, .on rfl HI2.out HS7.out⟩
        · have e0 : ((dn : Int) == 0) = false := by simp; omega
          have e1 : ((dn : Int) == 1) = false := by simp; omega
          have e2 : ((dn : Int) == 2) = false := by simp; omega
          have e3 : ((dn : Int) == 3) = false := by simp; omega
          have e4 : ((dn : Int) == 4) = false := by simp; omega
          clear h0 h1 h2 h3 h4
          go_wp2_with fail
          go_meet
          exact ⟨s, r, r, S, D, v, fs, 0, 0, rfl, rfl, rfl, rfl, rfl, .on rfl HI6.out HQ6.out⟩
      case rest =>
        obtain ⟨s, r, o, S, D, v, fs, e, f, rfl, rfl, rfl, rfl, rfl, HC⟩ := hcut
        have HKeep := Lib.hid (And.intro HYin.out.1.keep.1 HYin.out.1.keep.2.2)
        clear HI6 HI7 HS6 z0 z1 z2 z3 z4 z5 z6 z7 z8
        cases HC.out with
        | on he h hs =>
          subst he
          have HI := Lib.hid h; have HS := Lib.hid hs
          have HOf : Hid (Calls Try.prog 44 #[.pointer (some ⟨d, 0, none⟩)] wc fun e w' => e = .returned (.bool false) ∧ wc = w') := by
            have h9 := off_any d D w wc _ hs.up2
            rw [h.isOn] at h9
            exact h9
          have hee : (e != e) = false := by simp
          clear h hs HC
          go_wp2_with (go_at_call 44; (with_reducible refine HOf.out.mono ?_); rintro e w9 ⟨rfl, rfl⟩)
          go_roundw
          · exact ⟨i + 1, s, r, S, D, v, fs, by omega, by omega, rfl, rfl, by go_num, HI.out.mono (by omega), Sat.right (A := Pt gx 67 #[.int .i64 yq, .int .i64 yn, .int .i64 yk, .slice aA al.length ac, .slice dA dl.length dc, .slice bA bl.length bc, .slice kA kl.length kc, .int .i64 yt, .int .i64 yc]) (HS.out.of (by ac_rfl))⟩
          · simp [intOf]; omega
        | off he ho hl hc hr hf hz h hs =>
          subst he; subst hr
          have HOf : Hid (Calls Try.prog 44 #[.pointer (some ⟨d, 0, none⟩)] wc fun e w' => e = .returned (.bool true) ∧ wc = w') := by
            have h9 := off_any d D w wc _ hs
            rw [ho] at h9
            exact h9
          have HAn : Hid (Calls Try.prog 46 #[.pointer (some ⟨d, 0, none⟩), .pointer (some ⟨o, 0, none⟩), .pointer (some ⟨o, 0, none⟩), .agg #[.int .i64 yq, .int .i64 yn, .int .i64 yk, .slice aA al.length ac, .slice dA dl.length dc, .slice bA bl.length bc, .slice kA kl.length kc, .int .i64 yt, .int .i64 yc]] wc (Anew w (Pt gx 67 #[.int .i64 yq, .int .i64 yn, .int .i64 yk, .slice aA al.length ac, .slice dA dl.length dc, .slice bA bl.length bc, .slice kA kl.length kc, .int .i64 yt, .int .i64 yc] * Emp) N (3 + 2 * i) d)) := anew_one (F := Pt gx 67 #[.int .i64 yq, .int .i64 yn, .int .i64 yk, .slice aA al.length ac, .slice dA dl.length dc, .slice bA bl.length bc, .slice kA kl.length kc, .int .i64 yt, .int .i64 yc] * Emp) (c := 3 + 2 * i) yq yn yk yt yc aA dA bA kA ac dc bc kc al dl bl kl (by omega) (by omega) hl hc HKeep.out.1 HKeep.out.2 hf hz h _ hs
          have q0 := hs.up4.cell 0; have q1 := hs.up4.cell 1; have q2 := hs.up4.cell 2; have q3 := hs.up4.cell 3; have q4 := hs.up4.cell 4; have q5 := hs.up4.cell 5; have q6 := hs.up4.cell 6; have q7 := hs.up4.cell 7; have q8 := hs.up4.cell 8; simp only [List.getElem?_toArray, List.getElem?_cons_zero, List.getElem?_cons_succ] at q0 q1 q2 q3 q4 q5 q6 q7 q8
          clear hs hl hc hf hz h ho HC
          go_wp2_with (first
            | (go_at_call 44; (with_reducible refine HOf.out.mono ?_); rintro e w9 ⟨rfl, rfl⟩)
            | (go_at_call 46; (with_reducible refine HAn.out.mono ?_); rintro e w7 ⟨s2, t2, T, E, v2, ts, rfl, hi2, hs⟩; have HS7 := Lib.hid hs; have HI2 := Lib.hid hi2; clear hs hi2))
          go_roundw
          · exact ⟨i + 1, s2, t2, T, E, v2, ts, by omega, by omega, rfl, rfl, by go_num, HI2.out.mono (by omega), Sat.right (A := Pt gx 67 #[.int .i64 yq, .int .i64 yn, .int .i64 yk, .slice aA al.length ac, .slice dA dl.length dc, .slice bA bl.length bc, .slice kA kl.length kc, .int .i64 yt, .int .i64 yc]) (HS7.out.of (by ac_rfl))⟩
          · simp [intOf]; omega
        | two vu us he ho hl hc hf hu hz hzu hfr h hs =>
          subst he
          have HOf : Hid (Calls Try.prog 44 #[.pointer (some ⟨d, 0, none⟩)] wc fun e w' => e = .returned (.bool true) ∧ wc = w') := by
            have h9 := off_any d D w wc _ hs
            rw [ho] at h9
            exact h9
          have HAn : Hid (Calls Try.prog 46 #[.pointer (some ⟨d, 0, none⟩), .pointer (some ⟨r, 0, none⟩), .pointer (some ⟨o, 0, none⟩), .agg #[.int .i64 yq, .int .i64 yn, .int .i64 yk, .slice aA al.length ac, .slice dA dl.length dc, .slice bA bl.length bc, .slice kA kl.length kc, .int .i64 yt, .int .i64 yc]] wc (Anew w (Pt gx 67 #[.int .i64 yq, .int .i64 yn, .int .i64 yk, .slice aA al.length ac, .slice dA dl.length dc, .slice bA bl.length bc, .slice kA kl.length kc, .int .i64 yt, .int .i64 yc] * Emp) N (3 + 2 * i) d)) := anew_two (F := Pt gx 67 #[.int .i64 yq, .int .i64 yn, .int .i64 yk, .slice aA al.length ac, .slice dA dl.length dc, .slice bA bl.length bc, .slice kA kl.length kc, .int .i64 yt, .int .i64 yc] * Emp) (c := 3 + 2 * i) yq yn yk yt yc aA dA bA kA ac dc bc kc al dl bl kl (by omega) (by omega) hl hc HKeep.out.1 HKeep.out.2 hf hu hz hzu hfr h hs
          have q0 := hs.up5.cell 0; have q1 := hs.up5.cell 1; have q2 := hs.up5.cell 2; have q3 := hs.up5.cell 3; have q4 := hs.up5.cell 4; have q5 := hs.up5.cell 5; have q6 := hs.up5.cell 6; have q7 := hs.up5.cell 7; have q8 := hs.up5.cell 8; simp only [List.getElem?_toArray, List.getElem?_cons_zero, List.getElem?_cons_succ] at q0 q1 q2 q3 q4 q5 q6 q7 q8
          clear hs hl hc hf hu hz hzu hfr h ho HC
          go_wp2_with (first
            | (go_at_call 44; (with_reducible refine HOf.out.mono ?_); rintro e w9 ⟨rfl, rfl⟩)
            | (go_at_call 46; (with_reducible refine HAn.out.mono ?_); rintro e w7 ⟨s2, t2, T, E, v2, ts, rfl, hi2, hs⟩; have HS7 := Lib.hid hs; have HI2 := Lib.hid hi2; clear hs hi2))
          go_roundw
          · exact ⟨i + 1, s2, t2, T, E, v2, ts, by omega, by omega, rfl, rfl, by go_num, HI2.out.mono (by omega), Sat.right (A := Pt gx 67 #[.int .i64 yq, .int .i64 yn, .int .i64 yk, .slice aA al.length ac, .slice dA dl.length dc, .slice bA bl.length bc, .slice kA kl.length kc, .int .i64 yt, .int .i64 yc]) (HS7.out.of (by ac_rfl))⟩
          · simp [intOf]; omega
    · have hlt' : ¬ ((i : Int) < ss.length ∧ (i : Int) < 60) := by omega
      obtain ⟨sf, lim, h1, h2, h3⟩ := HD.out.1.good
      have HLn := Lib.hid HD.out.1.len
      have HAl : Hid (Calls Try.prog 43 #[.pointer (some ⟨s, 0, none⟩), .pointer (some ⟨r, 0, none⟩)] wr fun e w' => e = .returned (.bool true) ∧ Sat w (SpaceP s d S * (Disk d D * (RSp r N v fs * (FrP fs * Emp)))) w') := by
        have h9 := alike_any (v := v) (F := Emp) (r := r) (d := d) (s := s) h2 HD.out.1.mat (by rw [HLn.out]; exact HD.out.2)
        rw [HLn.out] at h9
        exact h9
      go_wp2_with (go_at_call 43; (with_reducible refine HAl.out.mono ?_); rintro e w9 ⟨rfl, hs⟩; have HS9 := Lib.hid hs; clear hs)
      all_goals
        go_ret
        exact ⟨rfl, HS9.out.chg⟩
end Go.Proofs.Ytjmapbhgjhlefaa
