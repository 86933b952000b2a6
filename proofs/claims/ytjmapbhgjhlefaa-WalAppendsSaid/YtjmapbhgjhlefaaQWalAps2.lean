/- WalAppends: the walk. -/
import Derived.Deep.CutBlock
import Derived.Test.YtjmapbhgjhlefaaQ14
import Derived.Test.YtjmapbhgjhlefaaQ15
import Derived.Test.YtjmapbhgjhlefaaQWalAps
import Derived.Test.YtjmapbhgjhlefaaQWalLong
import Derived.Test.YtjmapbhgjhlefaaQRNeed
import Derived.Test.YtjmapbhgjhlefaaQOwnL2
namespace Go.Proofs.Ytjmapbhgjhlefaa
open Go.RowKit
set_option linter.unusedVariables false
set_option maxRecDepth 100000

set_option maxHeartbeats 8000000 in
theorem walAppends_walk (bk : Int) (A : Option Addr) (c : Nat) (ks : List (Int × Int × Int)) (w : World) (hbk : -9223372036854775808 ≤ bk ∧ bk ≤ 9223372036854775807) (hp : ks.length ≤ c ∧ c ≤ maxLen ∧ RdV w A (ks.flatMap v3) ∧ ks.length * 24 ≤ 140737488351232 ∧ ∀ y ∈ ks, isI64 y.1 ∧ isI64 y.2.1 ∧ isI64 y.2.2) :
    Calls Try.prog 11 #[.int .i64 bk, .slice A ks.length c] w (Asked true w) := by
  obtain ⟨i0, hi0', hz0', hz1', hz2'⟩ := info_parts info_sl
  have hi0 := Lib.hid hi0'; have hz0 := Lib.hid hz0'; have hz1 := Lib.hid hz1'; have hz2 := Lib.hid hz2'
  clear hi0' hz0' hz1' hz2'
  obtain ⟨bl, hbl⟩ : ∃ n : Nat, n = (1 + bk % 16).toNat := ⟨_, rfl⟩
  have hb16 : 1 ≤ bl ∧ bl ≤ 16 := by omega
  have hma : bits .and .i64 bk 15 = (bl : Int) - 1 := by rw [and15]; omega
  have hka : (1 : Int) + ((bl : Int) - 1) = bl := by omega
  have bb1 : bl ≤ 16 := hb16.2
  obtain ⟨D0, hD0⟩ : ∃ D, D = beginD 64 := ⟨_, rfl⟩
  have hg0 : Good D0 ⟨1, 1, []⟩ (fun _ => 0) 1 := by rw [hD0]; exact begin_good (by omega) (by omega)
  have hl0 : D0.cells.length = 64 := by rw [hD0]; exact begin_len
  have ha0 : D0.armed = 0 := by rw [hD0]; exact begin_armed
  have hc0 : Cnt D0 1 := by rw [hD0]; exact begin_cnt
  obtain ⟨D1, e1, hg1, hc1, hl1, ha1⟩ := wa_begin hg0 (by omega) ha0 hl0 hb16
  have HG0 := Lib.hid hg0; have HC0 := Lib.hid hc0; have HE1 := Lib.hid e1; have HP := Lib.hid hp
  have HC1 := Lib.hid (hc1 1 hc0); have HG1 := Lib.hid hg1; have HL1 := Lib.hid hl1; have HAr1 := Lib.hid ha1
  have HA0 : Hid (D0.armed ≤ 9223372036854775807) := by unfold Hid; omega
  have HB : Hid (Calls Try.prog 24 #[.int .i64 64] w fun e w' => ∃ d s, e = .returned (.tuple #[.pointer (some ⟨d, 0, none⟩), .pointer (some ⟨s, 0, none⟩)]) ∧ Sat w (SpaceP s d ⟨1, 1, []⟩ * (Disk d D0 * Emp)) w') := by rw [hD0]; exact begin_any (w0 := w) (F := Emp) 64 (by omega) (Sat.start w)
  clear hD0 hg0 hl0 ha0 hc0 hg1 hc1 hl1 ha1 e1 hb16 hbl hp
  go_enter Try.func11, Try.ntmps11
  go_upto_region 2 with (go_at_call 24; (with_reducible refine HB.out.mono ?_); rintro e w2 ⟨d, s, rfl, hs⟩; have HS2 := Lib.hid hs; clear hs)
  clear HB
  go_upto_region 5 with (first
    | (go_at_call 17; have h8 := HS2.out.allocPt 35 #[.int .i64 3, .int .i64 0, .int .i64 (bl : Int), .int .i64 4, .int .i64 0, .int .i64 20]; have h9 := sw_add w2.heap.size 2 2 _ [⟨3, 0, bl⟩, ⟨4, 0, 20⟩] HG0.out (by omega) HC0.out (by omega) HA0.out h8 rfl rfl (by omega) (fun f hf => by
        rcases List.mem_cons.1 hf with rfl | hf
        · exact ⟨by dsimp only; omega, by dsimp only; omega⟩
        · rw [List.mem_singleton.1 hf]; exact ⟨by dsimp only; omega, by dsimp only; omega⟩) HE1.out; (with_reducible refine h9.mono ?_); rintro e w4 ⟨rfl, hs⟩; have HS4 := Lib.hid hs; clear hs h9 h8)
    | (go_at_call 49; (with_reducible refine (num4_any _ _).mono ?_); rintro e wx ⟨rfl, rfl⟩)
    | (go_at_call 51; (with_reducible refine (wakes_any _).mono ?_); rintro e w5 ⟨rfl, hk⟩; have HS5 := Lib.hid (HS4.out.new hk); clear hk))
  clear HS2 HS4
  have h6 := HS5.out.allocPt 85 #[.slice none 0 0, .slice none 0 0]
  have h7 := h6.allocAt (b := w5.heap.size + 1) 86 #[.int .i64 0, .int .i64 0] (by simp)
  have HS6 := Lib.hid h6; have HS7 := Lib.hid h7
  clear h6 h7 HS5
  go_upto_region 7 with fail
  generalize hW : World.alloc (World.alloc w5 _) _ = w7
  have HS8 : Hid (Sat w (Pt (w5.heap.size + 1) 86 #[.int .i64 0, .int .i64 0] * (Pt w5.heap.size 85 #[.slice none 0 0, .slice none 0 0] * (SpaceP s d (waS bl [] []) * (Disk d D1 * Emp)))) w7) := by unfold Hid; rw [← hW]; exact HS7.out
  clear hW HS6 HS7
  revert HS8
  generalize w5.heap.size = gH
  intro HS8
  obtain ⟨gU, hgU⟩ : ∃ g, g = gH + 1 := ⟨_, rfl⟩
  rw [← hgU] at HS8 ⊢
  clear hgU
  go_upto_block 0 with fail
  go_cut [9] (fun _ wx => ∃ (u0 u1 : Value) (h0 h1 : Rows_) (D : Dk), Hid (h0.length ≤ 30 ∧ h1.length ≤ 30 ∧ (∀ x ∈ h0 ++ h1, x.2.2.length ≤ 3000) ∧ (∃ sf lim, lim ≤ 2 ∧ Good D (waS bl ((txt h0).flatMap split) ((txt h1).flatMap split)) sf lim) ∧ Cnt D 17000 ∧ D.armed = 0 ∧ D.cells.length = 64 ∧ Sat w (Pt gU 86 #[.int .i64 (((txt h0).flatMap split).length : Nat), .int .i64 (((txt h1).flatMap split).length : Nat)] * (Pt gH 85 #[u0, u1] * (Row 39 1 u0 h0.length (h0.map slOf) * (Row 39 1 u1 h1.length (h1.map slOf) * (RoL h0 * (RoL h1 * (SpaceP s d (waS bl ((txt h0).flatMap split) ((txt h1).flatMap split)) * (Disk d D * Emp)))))))) wx))
  case first =>
    go_wp2_with fail
    go_loopw [9] (fun iv wr => ∃ (i : Nat) (u0 u1 : Value) (h0 h1 : Rows_) (D : Dk), i ≤ ks.length ∧ i ≤ 30 ∧ iv = .int .i64 (i : Int) ∧ Hid (h0.length ≤ i ∧ h1.length ≤ i ∧ (∀ x ∈ h0 ++ h1, x.2.2.length ≤ 3000) ∧ ((txt h0).flatMap split).length ≤ bl ∧ ((txt h1).flatMap split).length ≤ 20 ∧ (∃ sf lim, lim ≤ 2 ∧ Good D (waS bl ((txt h0).flatMap split) ((txt h1).flatMap split)) sf lim) ∧ Cnt D (2 + 548 * i) ∧ D.armed = 0 ∧ D.cells.length = 64 ∧
      Sat w (Pt gU 86 #[.int .i64 (((txt h0).flatMap split).length : Nat), .int .i64 (((txt h1).flatMap split).length : Nat)] * (Pt gH 85 #[u0, u1] * (Row 39 1 u0 h0.length (h0.map slOf) * (Row 39 1 u1 h1.length (h1.map slOf) * (RoL h0 * (RoL h1 * (SpaceP s d (waS bl ((txt h0).flatMap split) ((txt h1).flatMap split)) * (Disk d D * Emp)))))))) wr)) (fun iv _ => 30 - (intOf iv).toNat)
    case atStart =>
      refine ⟨0, .slice none 0 0, .slice none 0 0, [], [], D1, by omega, by omega, rfl, ?_⟩
      have h1 : Sat w (Row 39 1 (.slice none 0 0) 0 [] * (Row 39 1 (.slice none 0 0) 0 [] * (RoL [] * (RoL [] * (Pt gU 86 #[.int .i64 0, .int .i64 0] * (Pt gH 85 #[.slice none 0 0, .slice none 0 0] * (SpaceP s d (waS bl [] []) * (Disk d D1 * Emp)))))))) w7 := (((HS8.out.rolNil [] (by simp)).rolNil [] (by simp)).row_nil _ 1).row_nil _ 1
      exact ⟨by simp, by simp, by simp, by simp [txt], by simp [txt], ⟨_, _, Nat.le_refl _, HG1.out⟩, HC1.out, HAr1.out, HL1.out, h1.of (show _ = Pt gU 86 #[.int .i64 0, .int .i64 0] * (Pt gH 85 #[.slice none 0 0, .slice none 0 0] * (Row 39 1 (.slice none 0 0) 0 [] * (Row 39 1 (.slice none 0 0) 0 [] * (RoL [] * (RoL [] * (SpaceP s d (waS bl [] []) * (Disk d D1 * Emp))))))) by ac_rfl)⟩
    case round =>
      obtain ⟨i, u0, u1, h0, h1, D, hi, hi30, rfl, HD⟩ := hrel
      by_cases hlt : i < ks.length ∧ i < 30
      · have hk2 : (i : Int) < ks.length := by omega
        have hk3 : (i : Int) < 30 := by omega
        have HSw := Lib.hid HD.out.2.2.2.2.2.2.2.2.2
        obtain ⟨b, o, rfl, hc⟩ := RdV.elem (f := v3) (k := 3) (fun _ => rfl) (by decide) (HP.out.2.2.1.new HSw.out.chg) hlt.1
        have q0 : wr.cell? ⟨b, o + i * 3, none⟩ = some (.int .i64 ks[i].1) := hc 0 (by omega)
        have q1 : wr.cell? ⟨b, o + i * 3 + 1, none⟩ = some (.int .i64 ks[i].2.1) := hc 1 (by omega)
        have hxw := HP.out.2.2.2.2 ks[i] (List.getElem_mem hlt.1)
        have HPc : Hid (∀ W, Chg No w W → W.cell? ⟨b, o + i * 3 + 1, none⟩ = some (.int .i64 ks[i].2.1) ∧ W.cell? ⟨b, o + i * 3 + 2, none⟩ = some (.int .i64 ks[i].2.2)) := fun W hW => by
          obtain ⟨b', o', e', hc'⟩ := RdV.elem (f := v3) (k := 3) (fun _ => rfl) (by decide) (HP.out.2.2.1.new hW) hlt.1
          injection e' with e'
          injection e' with e1 e2
          subst e1; subst e2
          exact ⟨hc' 1 (by omega), hc' 2 (by omega)⟩
        clear hc
        generalize ks[i] = x at *
        obtain ⟨x0, x1, x2⟩ := x
        dsimp only at q0 q1 hxw HPc
        obtain ⟨n, hn⟩ : ∃ n, n = wi x1 3000 := ⟨_, rfl⟩
        have hn3 : n ≤ 3000 := by have := wi_le x1 3000 (by omega); omega
        have HWi := Lib.hid (fun W => within0 x1 3000 W (by omega) (by omega))
        rw [← hn] at HWi
        have HLo : Hid (∀ W, Calls Try.prog 48 #[.int .i64 (n : Int), .int .i64 x2] W (Longed (long n x2) W)) := fun W => long_any n x2 W (by omega)
        have HLl := Lib.hid (length_long n x2)
        have hx01 : bits .and .i64 x0 1 = x0 % 2 := and1 x0
        clear hn
        rcases (show x0 % 2 = 0 ∨ x0 % 2 = 1 by omega) with hx | hx
        ·
          rw [hx] at hx01
          clear hx
          go_upto_region 12 with fail
          generalize hW : World.alloc wr _ = w9
          have hk9 : Chg No w w9 := by rw [← hW]; exact HSw.out.chg.alloc _
          obtain ⟨U0, hU0⟩ : ∃ U : Nat, U = ((txt h0).flatMap split).length := ⟨_, rfl⟩
          obtain ⟨U1, hU1⟩ : ∃ U : Nat, U = ((txt h1).flatMap split).length := ⟨_, rfl⟩
          have HU0 := Lib.hid hU0; have HU1 := Lib.hid hU1
          have HS9 : Hid (Sat w (Pt gU 86 #[.int .i64 ((U0 : Nat) : Int), .int .i64 ((U1 : Nat) : Int)] * (Pt gH 85 #[u0, u1] * (Row 39 1 u0 h0.length (h0.map slOf) * (Row 39 1 u1 h1.length (h1.map slOf) * (RoL h0 * (RoL h1 * (SpaceP s d (waS bl ((txt h0).flatMap split) ((txt h1).flatMap split)) * (Disk d D * Emp)))))))) w9) := by unfold Hid; rw [← hW, hU0, hU1]; exact HSw.out.alloc' _
          clear hW q0 q1
          have q1 := (HPc.out w9 hk9).1
          have q2 := (HPc.out w9 hk9).2
          go_upto_region 13 with (go_at_call 28; (with_reducible refine (HWi.out _).mono ?_); rintro e wx ⟨rfl, rfl⟩)
          go_upto_region 14 with (go_at_call 48; (with_reducible refine (HLo.out _).mono ?_); rintro e w10 hl10; obtain ⟨A10, rfl, hs10⟩ := HS9.out.longed hl10; have HS10 := Lib.hid hs10; clear hs10 hl10)
          obtain ⟨z1, z2, z3, z4, z5, ⟨sf, lim, zl, zg⟩, zc, za, zn, _⟩ := HD.out
          have hput := wa_put3 (b := long n x2) zg (by rw [HLl.out]; omega) za
          rw [HLl.out, ← hU0] at hput
          have z4' := z4; have z5' := z5
          rw [← hU0] at z4'; rw [← hU1] at z5'
          clear hU0 hU1
          have hap := wapp_sp (b := long n x2) 3 A10 (long n x2).length zg zc (by omega) (by omega) (HS10.out.of (show _ = SpaceP s d (waS bl ((txt h0).flatMap split) ((txt h1).flatMap split)) * (Disk d D * (RoL [(A10, (long n x2).length, long n x2)] * (Pt gU 86 #[.int .i64 ((U0 : Nat) : Int), .int .i64 ((U1 : Nat) : Int)] * (Pt gH 85 #[u0, u1] * (Row 39 1 u0 h0.length (h0.map slOf) * (Row 39 1 u1 h1.length (h1.map slOf) * (RoL h0 * (RoL h1 * Emp)))))))) by ac_rfl)) (fun W hW => hW.rol List.mem_cons_self) (Nat.le_refl _) (by rw [HLl.out]; omega)
          have HRn : Hid (∀ W, Calls Try.prog 52 #[.int .i64 (n : Int)] W fun e w' => e = .returned (.int .i64 (needN n : Int)) ∧ w' = W) := fun W => by
            have h9 := rneed_any (n : Int) W (by omega)
            have e : needI (n : Int) = (needN n : Int) := by rw [needI, if_pos (by omega), Int.toNat_natCast]
            rwa [e] at h9
          have hnn := needN_le n
          have hwr : IntKind.i64.wrap (((U0 : Nat) : Int) + (needN n : Int)) = ((U0 : Nat) : Int) + (needN n : Int) := by rw [IntKind.wrap_i64]; omega
          by_cases hr : bl < U0 + needN n
          · rw [if_pos hr] at hput
            rw [hput] at hap
            have HAp := Lib.hid hap
            have hr9 : (bl : Int) < ((U0 : Nat) : Int) + (needN n : Int) := by omega
            clear hap hput HS10
            go_upto_region 15 with (go_at_call 19; (with_reducible refine HAp.out.mono ?_); rintro e w11 ⟨rfl, hs⟩; have HS11 := Lib.hid hs; clear hs)
            have p0 : w11.drew.cell? ⟨gU, 0, none⟩ = some (.int .i64 ((U0 : Nat) : Int)) := HS11.out.drew.up4.cell 0
            refine wp_region_held_drew (S := fun w' => w'.cell? ⟨gU, 0, none⟩ = some (.int .i64 ((U0 : Nat) : Int))) (by kernel_rfl) p0 ?_
            intro hS0
            refine rgn_take (i := 0) (v := ?rv1) rfl (by kernel_rfl) (by kernel_rfl) (by kernel_rfl) (fun _ _ _ h => h) (by rfl) ?rh1 (by assumption) ?rr1
            case rh1 => (intro w hSw; (try dsimp only at hSw); go_simp; try with_reducible rfl)
            simp only [Act.put, List.setIfInBounds_toArray, List.set_cons_zero, List.set_cons_succ]
            refine rgn_take (i := 1) (v := ?rv2) rfl (by kernel_rfl) (by kernel_rfl) (by kernel_rfl) (fun _ _ _ h => h) (by rfl) ?rh2 (by assumption) ?rr2
            case rh2 => (intro w hSw; (try dsimp only at hSw); go_simp; try with_reducible rfl)
            simp only [Act.put, List.setIfInBounds_toArray, List.set_cons_zero, List.set_cons_succ]
            refine rgn_take (i := 2) (v := ?rv3) rfl (by kernel_rfl) (by kernel_rfl) (by kernel_rfl) (fun _ _ _ h => h) (by rfl) ?rh3 (by assumption) ?rr3
            case rh3 => (intro w hSw; (try dsimp only at hSw); go_simp; try with_reducible rfl)
            simp only [Act.put, List.setIfInBounds_toArray, List.set_cons_zero, List.set_cons_succ]
            refine rgn_take (i := 3) (v := ?rv4) rfl (by kernel_rfl) (by kernel_rfl) (by kernel_rfl) (fun _ _ _ h => h) (by rfl) ?rh4 (by assumption) ?rr4
            case rh4 => (intro w hSw; (try dsimp only at hSw); go_simp; try with_reducible rfl)
            simp only [Act.put, List.setIfInBounds_toArray, List.set_cons_zero, List.set_cons_succ]
            refine rgn_take (i := 6) (v := ?rv5) rfl (by kernel_rfl) (by kernel_rfl) (by kernel_rfl) (fun _ _ _ h => h) (by rfl) ?rh5 (by assumption) ?rr5
            case rh5 => (intro w hSw; (try dsimp only at hSw); go_simp; try with_reducible rfl)
            simp only [Act.put, List.setIfInBounds_toArray, List.set_cons_zero, List.set_cons_succ]
            refine rgn_call (i := 4) rfl (by kernel_rfl) (fun K hK => ?_)
            go_simp
            go_at_call 52; refine (HRn.out _).mono ?_; rintro e wx ⟨rfl, rfl⟩
            refine hK.out _ _ hS0 (fun hS0 => ?_)
            clear hK K
            refine rgn_take (i := 5) (v := ?rv7) rfl (by kernel_rfl) (by kernel_rfl) (by kernel_rfl) (fun _ _ _ h => h) (by rfl) ?rh7 (by assumption) ?rr7
            case rh7 => (intro w hSw; (try dsimp only at hSw); go_simp; try with_reducible rfl)
            simp only [Act.put, List.setIfInBounds_toArray, List.set_cons_zero, List.set_cons_succ]
            try simp only [hwr]
            refine rgn_take (i := 7) (v := ?rv9) rfl (by kernel_rfl) (by kernel_rfl) (by kernel_rfl) (fun _ _ _ h => h) (by rfl) ?rh9 (by assumption) ?rr9
            case rh9 => (intro w hSw; (try dsimp only at hSw); go_simp; try with_reducible rfl)
            simp only [Act.put, List.setIfInBounds_toArray, List.set_cons_zero, List.set_cons_succ]
            refine wpAnyH_done (by kernel_rfl) ?_ _
            go_wp2_with (go_at_call 49; (with_reducible refine (num4_any _ _).mono ?_); rintro e wx ⟨rfl, rfl⟩)
            go_roundw
            · have hfin := HS11.out.drew.drop3
              rw [HU0.out, HU1.out] at hfin
              exact ⟨i + 1, u0, u1, h0, h1, D, by omega, by omega, by go_num, by omega, by omega, z3, z4, z5, ⟨sf, lim, zl, zg⟩, zc.mono (by omega), za, zn, hfin.of (by ac_rfl)⟩
            · simp [intOf]; omega
          · rw [if_neg hr] at hput
            obtain ⟨D', e, hg', hc', hl', ha'⟩ := hput
            rw [e] at hap
            have HAp := Lib.hid hap
            have hr9 : ¬ (bl : Int) < ((U0 : Nat) : Int) + (needN n : Int) := by omega
            have HG' := Lib.hid hg'; have HC' := Lib.hid (hc' _ zc); have HL' := Lib.hid hl'; have HA' := Lib.hid ha'
            clear hap e HS10 hg' hc' hl' ha'
            go_upto_region 15 with (go_at_call 19; (with_reducible refine HAp.out.mono ?_); rintro e w11 ⟨rfl, hs⟩; have HS11 := Lib.hid hs; clear hs)
            have p0 : w11.drew.cell? ⟨gU, 0, none⟩ = some (.int .i64 ((U0 : Nat) : Int)) := HS11.out.drew.up4.cell 0
            refine wp_region_held_drew (S := fun w' => w'.cell? ⟨gU, 0, none⟩ = some (.int .i64 ((U0 : Nat) : Int))) (by kernel_rfl) p0 ?_
            intro hS0
            refine rgn_take (i := 0) (v := ?sv1) rfl (by kernel_rfl) (by kernel_rfl) (by kernel_rfl) (fun _ _ _ h => h) (by rfl) ?sh1 (by assumption) ?sr1
            case sh1 => (intro w hSw; (try dsimp only at hSw); go_simp; try with_reducible rfl)
            simp only [Act.put, List.setIfInBounds_toArray, List.set_cons_zero, List.set_cons_succ]
            refine rgn_take (i := 1) (v := ?sv2) rfl (by kernel_rfl) (by kernel_rfl) (by kernel_rfl) (fun _ _ _ h => h) (by rfl) ?sh2 (by assumption) ?sr2
            case sh2 => (intro w hSw; (try dsimp only at hSw); go_simp; try with_reducible rfl)
            simp only [Act.put, List.setIfInBounds_toArray, List.set_cons_zero, List.set_cons_succ]
            refine rgn_take (i := 2) (v := ?sv3) rfl (by kernel_rfl) (by kernel_rfl) (by kernel_rfl) (fun _ _ _ h => h) (by rfl) ?sh3 (by assumption) ?sr3
            case sh3 => (intro w hSw; (try dsimp only at hSw); go_simp; try with_reducible rfl)
            simp only [Act.put, List.setIfInBounds_toArray, List.set_cons_zero, List.set_cons_succ]
            refine rgn_take (i := 3) (v := ?sv4) rfl (by kernel_rfl) (by kernel_rfl) (by kernel_rfl) (fun _ _ _ h => h) (by rfl) ?sh4 (by assumption) ?sr4
            case sh4 => (intro w hSw; (try dsimp only at hSw); go_simp; try with_reducible rfl)
            simp only [Act.put, List.setIfInBounds_toArray, List.set_cons_zero, List.set_cons_succ]
            refine rgn_take (i := 6) (v := ?sv5) rfl (by kernel_rfl) (by kernel_rfl) (by kernel_rfl) (fun _ _ _ h => h) (by rfl) ?sh5 (by assumption) ?sr5
            case sh5 => (intro w hSw; (try dsimp only at hSw); go_simp; try with_reducible rfl)
            simp only [Act.put, List.setIfInBounds_toArray, List.set_cons_zero, List.set_cons_succ]
            refine rgn_call (i := 4) rfl (by kernel_rfl) (fun K hK => ?_)
            go_simp
            go_at_call 52; refine (HRn.out _).mono ?_; rintro e wx ⟨rfl, rfl⟩
            refine hK.out _ _ hS0 (fun hS0 => ?_)
            clear hK K
            refine rgn_take (i := 5) (v := ?sv7) rfl (by kernel_rfl) (by kernel_rfl) (by kernel_rfl) (fun _ _ _ h => h) (by rfl) ?sh7 (by assumption) ?sr7
            case sh7 => (intro w hSw; (try dsimp only at hSw); go_simp; try with_reducible rfl)
            simp only [Act.put, List.setIfInBounds_toArray, List.set_cons_zero, List.set_cons_succ]
            try simp only [hwr]
            refine rgn_take (i := 7) (v := ?sv9) rfl (by kernel_rfl) (by kernel_rfl) (by kernel_rfl) (fun _ _ _ h => h) (by rfl) ?sh9 (by assumption) ?sr9
            case sh9 => (intro w hSw; (try dsimp only at hSw); go_simp; try with_reducible rfl)
            simp only [Act.put, List.setIfInBounds_toArray, List.set_cons_zero, List.set_cons_succ]
            refine wpAnyH_done (by kernel_rfl) ?_ _
            have HS12 : Hid (Sat w (Pt gU 86 #[.int .i64 ((U0 : Nat) : Int), .int .i64 ((U1 : Nat) : Int)] * (RoL [(A10, (long n x2).length, long n x2)] * (Pt gH 85 #[u0, u1] * (Row 39 1 u0 h0.length (h0.map slOf) * (Row 39 1 u1 h1.length (h1.map slOf) * (RoL h0 * (RoL h1 * (SpaceP s d (waS bl ((txt h0).flatMap split ++ split (long n x2)) ((txt h1).flatMap split)) * (Disk d D' * Emp))))))))) w11.drew) := HS11.out.drew.of (by ac_rfl)
            clear HS11 HAp
            have p0 : w11.drew.drew.cell? ⟨gU, 0, none⟩ = some (.int .i64 ((U0 : Nat) : Int)) := HS12.out.drew.cell 0
            have f0 := HS12.out.drew.frozen 0
            go_upto_region 18 with fail
            go_cut [101] (fun _ wx => Hid (Sat w (Pt gU 86 #[.int .i64 (((U0 : Nat) : Int) + (needN n : Int)), .int .i64 ((U1 : Nat) : Int)] * (RoL [(A10, (long n x2).length, long n x2)] * (Pt gH 85 #[u0, u1] * (Row 39 1 u0 h0.length (h0.map slOf) * (Row 39 1 u1 h1.length (h1.map slOf) * (RoL h0 * (RoL h1 * (SpaceP s d (waS bl ((txt h0).flatMap split ++ split (long n x2)) ((txt h1).flatMap split)) * (Disk d D' * Emp))))))))) wx))
            case first =>
              go_region_law (go_simp; go_at_call 52; refine (HRn.out _).mono ?_; rintro e wx ⟨rfl, rfl⟩)
              all_goals
                (try simp only [hwr])
                go_wp2_with fail
                go_meet
                exact HS12.out.drew.set 0 _
            case rest =>
              have HS13 := Lib.hid hcut.out
              clear hcut HS12 p0 f0
              obtain ⟨E1, hE1⟩ : ∃ e : Option Addr × Nat × List UInt8, e = (A10, (long n x2).length, long n x2) := ⟨_, rfl⟩
              have HE1 := Lib.hid hE1
              have HRw := Lib.hid (HS13.out.of (show _ = Row 39 1 u0 h0.length (h0.map slOf) * (RoL [E1] * (Pt gH 85 #[u0, u1] * (Pt gU 86 #[.int .i64 (((U0 : Nat) : Int) + (needN n : Int)), .int .i64 ((U1 : Nat) : Int)] * (Row 39 1 u1 h1.length (h1.map slOf) * (RoL h0 * (RoL h1 * (SpaceP s d (waS bl ((txt h0).flatMap split ++ split (long n x2)) ((txt h1).flatMap split)) * (Disk d D' * Emp)))))))) by rw [hE1]; ac_rfl))
              have c0 := HRw.out.up3.cell 0
              simp only [List.getElem?_toArray, List.getElem?_cons_zero] at c0
              obtain ⟨AK, cK, eK, hK1, hK2⟩ := HRw.out.row_sl
              rw [eK] at HRw c0
              have HEK := Lib.hid eK
              have hklen : h0.length ≤ 30 := by omega
              clear hE1 eK
              go_upto_region 20 with (at_builtin; refine wpList_appS rfl (.tmp 106) (.tmp 108) 38 rfl 39 i0 _ 1 24 Try.underlying38 hi0.out hz0.out hz1.out hz2.out rfl (by decide) (.slice AK h0.length cK) h0.length (h0.map slOf) rfl w _ (by exact HRw.out.alloc' _) (some ⟨wc.heap.size, 0, none⟩) 1 1 [slOf (A10, (long n x2).length, long n x2)] rfl (lit_rdv _ _ _) rfl (slOf_oneX _) (by unfold maxLen; omega) (by omega) ?_; intro A3 c3 w12 hs3; have HS14 := Lib.hid hs3; have f1 := hs3.up3.frozen 0; have c1 := hs3.up3.cell 0; simp only [List.getElem?_toArray, List.getElem?_cons_zero] at c1; clear hs3)
              have HU2 : Hid (((txt (h0 ++ [E1])).flatMap split).length = U0 + needN n) := by
                unfold Hid
                rw [txt_append, List.flatMap_append, List.length_append, ← HU0.out, HE1.out]
                simp only [txt, List.map_cons, List.map_nil, List.flatMap_cons, List.flatMap_nil, List.append_nil, split_len, HLl.out]
              have HF2 : Hid ((txt (h0 ++ [E1])).flatMap split = (txt h0).flatMap split ++ split (long n x2)) := by
                unfold Hid
                rw [txt_append, List.flatMap_append, HE1.out]
                simp only [txt, List.map_cons, List.map_nil, List.flatMap_cons, List.flatMap_nil, List.append_nil]
              have HE2 : Hid (E1.2.2.length ≤ 3000) := by unfold Hid; rw [HE1.out]; show (long n x2).length ≤ _; rw [HLl.out]; exact hn3
              have hfin := (HS14.out.up3.set 0 (.slice A3 (h0.length + 1) c3)).of (show _ = Pt gU 86 #[.int .i64 (((U0 : Nat) : Int) + (needN n : Int)), .int .i64 ((U1 : Nat) : Int)] * (Pt gH 85 #[.slice A3 (h0.length + 1) c3, u1] * (Row 39 1 (.slice A3 (h0.length + 1) c3) (h0 ++ [E1]).length ((h0 ++ [E1]).map slOf) * (Row 39 1 u1 h1.length (h1.map slOf) * (RoL (h0 ++ [E1]) * (RoL h1 * (SpaceP s d (waS bl ((txt h0).flatMap split ++ split (long n x2)) ((txt h1).flatMap split)) * (Disk d D' * Emp))))))) from by
                simp only [List.map_append, List.length_append, List.length_singleton, List.map_cons, List.map_nil, ← rol_app, HE1.out]
                ac_rfl)
              rw [HU1.out] at hfin
              clear HS14 HRw HS13
              go_wp2_with (go_at_call 49; (with_reducible refine (num4_any _ _).mono ?_); rintro e wx ⟨rfl, rfl⟩)
              go_roundw
              · refine ⟨i + 1, .slice A3 (h0.length + 1) c3, u1, (h0 ++ [E1]), h1, D', by omega, by omega, by go_num, ?_, ?_, ?_, ?_, ?_, ⟨sf, lim, zl, ?_⟩, HC'.out.mono (by omega), HA'.out, by rw [HL'.out]; exact zn, ?_⟩
                · rw [List.length_append]; show h0.length + 1 ≤ i + 1; omega
                · omega
                · intro x hx
                  rcases List.mem_append.1 hx with hx | hx
                  · rcases List.mem_append.1 hx with hx | hx
                    · exact z3 x (List.mem_append_left _ hx)
                    · rw [List.mem_singleton.1 hx]; exact HE2.out
                  · exact z3 x (List.mem_append_right _ hx)
                · rw [HU2.out]; omega
                · exact z5
                · rw [HF2.out]; exact HG'.out
                · rw [HU2.out, HF2.out]; push_cast
                  exact hfin
              · simp [intOf]; omega
        ·
          rw [hx] at hx01
          clear hx
          go_upto_region 12 with fail
          generalize hW : World.alloc wr _ = w9
          have hk9 : Chg No w w9 := by rw [← hW]; exact HSw.out.chg.alloc _
          obtain ⟨U0, hU0⟩ : ∃ U : Nat, U = ((txt h0).flatMap split).length := ⟨_, rfl⟩
          obtain ⟨U1, hU1⟩ : ∃ U : Nat, U = ((txt h1).flatMap split).length := ⟨_, rfl⟩
          have HU0 := Lib.hid hU0; have HU1 := Lib.hid hU1
          have HS9 : Hid (Sat w (Pt gU 86 #[.int .i64 ((U0 : Nat) : Int), .int .i64 ((U1 : Nat) : Int)] * (Pt gH 85 #[u0, u1] * (Row 39 1 u0 h0.length (h0.map slOf) * (Row 39 1 u1 h1.length (h1.map slOf) * (RoL h0 * (RoL h1 * (SpaceP s d (waS bl ((txt h0).flatMap split) ((txt h1).flatMap split)) * (Disk d D * Emp)))))))) w9) := by unfold Hid; rw [← hW, hU0, hU1]; exact HSw.out.alloc' _
          clear hW q0 q1
          have q1 := (HPc.out w9 hk9).1
          have q2 := (HPc.out w9 hk9).2
          go_upto_region 13 with (go_at_call 28; (with_reducible refine (HWi.out _).mono ?_); rintro e wx ⟨rfl, rfl⟩)
          go_upto_region 14 with (go_at_call 48; (with_reducible refine (HLo.out _).mono ?_); rintro e w10 hl10; obtain ⟨A10, rfl, hs10⟩ := HS9.out.longed hl10; have HS10 := Lib.hid hs10; clear hs10 hl10)
          obtain ⟨z1, z2, z3, z4, z5, ⟨sf, lim, zl, zg⟩, zc, za, zn, _⟩ := HD.out
          have hput := wa_put4 (b := long n x2) zg (by rw [HLl.out]; omega) za
          rw [HLl.out, ← hU1] at hput
          have z4' := z4; have z5' := z5
          rw [← hU0] at z4'; rw [← hU1] at z5'
          clear hU0 hU1
          have hap := wapp_sp (b := long n x2) 4 A10 (long n x2).length zg zc (by omega) (by omega) (HS10.out.of (show _ = SpaceP s d (waS bl ((txt h0).flatMap split) ((txt h1).flatMap split)) * (Disk d D * (RoL [(A10, (long n x2).length, long n x2)] * (Pt gU 86 #[.int .i64 ((U0 : Nat) : Int), .int .i64 ((U1 : Nat) : Int)] * (Pt gH 85 #[u0, u1] * (Row 39 1 u0 h0.length (h0.map slOf) * (Row 39 1 u1 h1.length (h1.map slOf) * (RoL h0 * (RoL h1 * Emp)))))))) by ac_rfl)) (fun W hW => hW.rol List.mem_cons_self) (Nat.le_refl _) (by rw [HLl.out]; omega)
          have HRn : Hid (∀ W, Calls Try.prog 52 #[.int .i64 (n : Int)] W fun e w' => e = .returned (.int .i64 (needN n : Int)) ∧ w' = W) := fun W => by
            have h9 := rneed_any (n : Int) W (by omega)
            have e : needI (n : Int) = (needN n : Int) := by rw [needI, if_pos (by omega), Int.toNat_natCast]
            rwa [e] at h9
          have hnn := needN_le n
          have hwr : IntKind.i64.wrap (((U1 : Nat) : Int) + (needN n : Int)) = ((U1 : Nat) : Int) + (needN n : Int) := by rw [IntKind.wrap_i64]; omega
          by_cases hr : 20 < U1 + needN n
          · rw [if_pos hr] at hput
            rw [hput] at hap
            have HAp := Lib.hid hap
            have hr9 : (20 : Int) < ((U1 : Nat) : Int) + (needN n : Int) := by omega
            clear hap hput HS10
            go_upto_region 15 with (go_at_call 19; (with_reducible refine HAp.out.mono ?_); rintro e w11 ⟨rfl, hs⟩; have HS11 := Lib.hid hs; clear hs)
            have p0 : w11.drew.cell? ⟨gU, 1, none⟩ = some (.int .i64 ((U1 : Nat) : Int)) := HS11.out.drew.up4.cell 1
            refine wp_region_held_drew (S := fun w' => w'.cell? ⟨gU, 1, none⟩ = some (.int .i64 ((U1 : Nat) : Int))) (by kernel_rfl) p0 ?_
            intro hS0
            refine rgn_take (i := 0) (v := ?rv10) rfl (by kernel_rfl) (by kernel_rfl) (by kernel_rfl) (fun _ _ _ h => h) (by rfl) ?rh10 (by assumption) ?rr10
            case rh10 => (intro w hSw; (try dsimp only at hSw); go_simp; try with_reducible rfl)
            simp only [Act.put, List.setIfInBounds_toArray, List.set_cons_zero, List.set_cons_succ]
            refine rgn_take (i := 1) (v := ?rv11) rfl (by kernel_rfl) (by kernel_rfl) (by kernel_rfl) (fun _ _ _ h => h) (by rfl) ?rh11 (by assumption) ?rr11
            case rh11 => (intro w hSw; (try dsimp only at hSw); go_simp; try with_reducible rfl)
            simp only [Act.put, List.setIfInBounds_toArray, List.set_cons_zero, List.set_cons_succ]
            refine rgn_take (i := 2) (v := ?rv12) rfl (by kernel_rfl) (by kernel_rfl) (by kernel_rfl) (fun _ _ _ h => h) (by rfl) ?rh12 (by assumption) ?rr12
            case rh12 => (intro w hSw; (try dsimp only at hSw); go_simp; try with_reducible rfl)
            simp only [Act.put, List.setIfInBounds_toArray, List.set_cons_zero, List.set_cons_succ]
            refine rgn_take (i := 3) (v := ?rv13) rfl (by kernel_rfl) (by kernel_rfl) (by kernel_rfl) (fun _ _ _ h => h) (by rfl) ?rh13 (by assumption) ?rr13
            case rh13 => (intro w hSw; (try dsimp only at hSw); go_simp; try with_reducible rfl)
            simp only [Act.put, List.setIfInBounds_toArray, List.set_cons_zero, List.set_cons_succ]
            refine rgn_take (i := 6) (v := ?rv14) rfl (by kernel_rfl) (by kernel_rfl) (by kernel_rfl) (fun _ _ _ h => h) (by rfl) ?rh14 (by assumption) ?rr14
            case rh14 => (intro w hSw; (try dsimp only at hSw); go_simp; try with_reducible rfl)
            simp only [Act.put, List.setIfInBounds_toArray, List.set_cons_zero, List.set_cons_succ]
            refine rgn_call (i := 4) rfl (by kernel_rfl) (fun K hK => ?_)
            go_simp
            go_at_call 52; refine (HRn.out _).mono ?_; rintro e wx ⟨rfl, rfl⟩
            refine hK.out _ _ hS0 (fun hS0 => ?_)
            clear hK K
            refine rgn_take (i := 5) (v := ?rv16) rfl (by kernel_rfl) (by kernel_rfl) (by kernel_rfl) (fun _ _ _ h => h) (by rfl) ?rh16 (by assumption) ?rr16
            case rh16 => (intro w hSw; (try dsimp only at hSw); go_simp; try with_reducible rfl)
            simp only [Act.put, List.setIfInBounds_toArray, List.set_cons_zero, List.set_cons_succ]
            try simp only [hwr]
            refine rgn_take (i := 7) (v := ?rv18) rfl (by kernel_rfl) (by kernel_rfl) (by kernel_rfl) (fun _ _ _ h => h) (by rfl) ?rh18 (by assumption) ?rr18
            case rh18 => (intro w hSw; (try dsimp only at hSw); go_simp; try with_reducible rfl)
            simp only [Act.put, List.setIfInBounds_toArray, List.set_cons_zero, List.set_cons_succ]
            refine wpAnyH_done (by kernel_rfl) ?_ _
            go_wp2_with (go_at_call 49; (with_reducible refine (num4_any _ _).mono ?_); rintro e wx ⟨rfl, rfl⟩)
            go_roundw
            · have hfin := HS11.out.drew.drop3
              rw [HU0.out, HU1.out] at hfin
              exact ⟨i + 1, u0, u1, h0, h1, D, by omega, by omega, by go_num, by omega, by omega, z3, z4, z5, ⟨sf, lim, zl, zg⟩, zc.mono (by omega), za, zn, hfin.of (by ac_rfl)⟩
            · simp [intOf]; omega
          · rw [if_neg hr] at hput
            obtain ⟨D', e, hg', hc', hl', ha'⟩ := hput
            rw [e] at hap
            have HAp := Lib.hid hap
            have hr9 : ¬ (20 : Int) < ((U1 : Nat) : Int) + (needN n : Int) := by omega
            have HG' := Lib.hid hg'; have HC' := Lib.hid (hc' _ zc); have HL' := Lib.hid hl'; have HA' := Lib.hid ha'
            clear hap e HS10 hg' hc' hl' ha'
            go_upto_region 15 with (go_at_call 19; (with_reducible refine HAp.out.mono ?_); rintro e w11 ⟨rfl, hs⟩; have HS11 := Lib.hid hs; clear hs)
            have p0 : w11.drew.cell? ⟨gU, 1, none⟩ = some (.int .i64 ((U1 : Nat) : Int)) := HS11.out.drew.up4.cell 1
            refine wp_region_held_drew (S := fun w' => w'.cell? ⟨gU, 1, none⟩ = some (.int .i64 ((U1 : Nat) : Int))) (by kernel_rfl) p0 ?_
            intro hS0
            refine rgn_take (i := 0) (v := ?sv10) rfl (by kernel_rfl) (by kernel_rfl) (by kernel_rfl) (fun _ _ _ h => h) (by rfl) ?sh10 (by assumption) ?sr10
            case sh10 => (intro w hSw; (try dsimp only at hSw); go_simp; try with_reducible rfl)
            simp only [Act.put, List.setIfInBounds_toArray, List.set_cons_zero, List.set_cons_succ]
            refine rgn_take (i := 1) (v := ?sv11) rfl (by kernel_rfl) (by kernel_rfl) (by kernel_rfl) (fun _ _ _ h => h) (by rfl) ?sh11 (by assumption) ?sr11
            case sh11 => (intro w hSw; (try dsimp only at hSw); go_simp; try with_reducible rfl)
            simp only [Act.put, List.setIfInBounds_toArray, List.set_cons_zero, List.set_cons_succ]
            refine rgn_take (i := 2) (v := ?sv12) rfl (by kernel_rfl) (by kernel_rfl) (by kernel_rfl) (fun _ _ _ h => h) (by rfl) ?sh12 (by assumption) ?sr12
            case sh12 => (intro w hSw; (try dsimp only at hSw); go_simp; try with_reducible rfl)
            simp only [Act.put, List.setIfInBounds_toArray, List.set_cons_zero, List.set_cons_succ]
            refine rgn_take (i := 3) (v := ?sv13) rfl (by kernel_rfl) (by kernel_rfl) (by kernel_rfl) (fun _ _ _ h => h) (by rfl) ?sh13 (by assumption) ?sr13
            case sh13 => (intro w hSw; (try dsimp only at hSw); go_simp; try with_reducible rfl)
            simp only [Act.put, List.setIfInBounds_toArray, List.set_cons_zero, List.set_cons_succ]
            refine rgn_take (i := 6) (v := ?sv14) rfl (by kernel_rfl) (by kernel_rfl) (by kernel_rfl) (fun _ _ _ h => h) (by rfl) ?sh14 (by assumption) ?sr14
            case sh14 => (intro w hSw; (try dsimp only at hSw); go_simp; try with_reducible rfl)
            simp only [Act.put, List.setIfInBounds_toArray, List.set_cons_zero, List.set_cons_succ]
            refine rgn_call (i := 4) rfl (by kernel_rfl) (fun K hK => ?_)
            go_simp
            go_at_call 52; refine (HRn.out _).mono ?_; rintro e wx ⟨rfl, rfl⟩
            refine hK.out _ _ hS0 (fun hS0 => ?_)
            clear hK K
            refine rgn_take (i := 5) (v := ?sv16) rfl (by kernel_rfl) (by kernel_rfl) (by kernel_rfl) (fun _ _ _ h => h) (by rfl) ?sh16 (by assumption) ?sr16
            case sh16 => (intro w hSw; (try dsimp only at hSw); go_simp; try with_reducible rfl)
            simp only [Act.put, List.setIfInBounds_toArray, List.set_cons_zero, List.set_cons_succ]
            try simp only [hwr]
            refine rgn_take (i := 7) (v := ?sv18) rfl (by kernel_rfl) (by kernel_rfl) (by kernel_rfl) (fun _ _ _ h => h) (by rfl) ?sh18 (by assumption) ?sr18
            case sh18 => (intro w hSw; (try dsimp only at hSw); go_simp; try with_reducible rfl)
            simp only [Act.put, List.setIfInBounds_toArray, List.set_cons_zero, List.set_cons_succ]
            refine wpAnyH_done (by kernel_rfl) ?_ _
            have HS12 : Hid (Sat w (Pt gU 86 #[.int .i64 ((U0 : Nat) : Int), .int .i64 ((U1 : Nat) : Int)] * (RoL [(A10, (long n x2).length, long n x2)] * (Pt gH 85 #[u0, u1] * (Row 39 1 u0 h0.length (h0.map slOf) * (Row 39 1 u1 h1.length (h1.map slOf) * (RoL h0 * (RoL h1 * (SpaceP s d (waS bl ((txt h0).flatMap split) ((txt h1).flatMap split ++ split (long n x2))) * (Disk d D' * Emp))))))))) w11.drew) := HS11.out.drew.of (by ac_rfl)
            clear HS11 HAp
            have p0 : w11.drew.drew.cell? ⟨gU, 1, none⟩ = some (.int .i64 ((U1 : Nat) : Int)) := HS12.out.drew.cell 1
            have f0 := HS12.out.drew.frozen 1
            go_upto_region 18 with fail
            go_cut [101] (fun _ wx => Hid (Sat w (Pt gU 86 #[.int .i64 ((U0 : Nat) : Int), .int .i64 (((U1 : Nat) : Int) + (needN n : Int))] * (RoL [(A10, (long n x2).length, long n x2)] * (Pt gH 85 #[u0, u1] * (Row 39 1 u0 h0.length (h0.map slOf) * (Row 39 1 u1 h1.length (h1.map slOf) * (RoL h0 * (RoL h1 * (SpaceP s d (waS bl ((txt h0).flatMap split) ((txt h1).flatMap split ++ split (long n x2))) * (Disk d D' * Emp))))))))) wx))
            case first =>
              go_region_law (go_simp; go_at_call 52; refine (HRn.out _).mono ?_; rintro e wx ⟨rfl, rfl⟩)
              all_goals
                (try simp only [hwr])
                go_wp2_with fail
                go_meet
                exact HS12.out.drew.set 1 _
            case rest =>
              have HS13 := Lib.hid hcut.out
              clear hcut HS12 p0 f0
              obtain ⟨E1, hE1⟩ : ∃ e : Option Addr × Nat × List UInt8, e = (A10, (long n x2).length, long n x2) := ⟨_, rfl⟩
              have HE1 := Lib.hid hE1
              have HRw := Lib.hid (HS13.out.of (show _ = Row 39 1 u1 h1.length (h1.map slOf) * (RoL [E1] * (Pt gH 85 #[u0, u1] * (Pt gU 86 #[.int .i64 ((U0 : Nat) : Int), .int .i64 (((U1 : Nat) : Int) + (needN n : Int))] * (Row 39 1 u0 h0.length (h0.map slOf) * (RoL h0 * (RoL h1 * (SpaceP s d (waS bl ((txt h0).flatMap split) ((txt h1).flatMap split ++ split (long n x2))) * (Disk d D' * Emp)))))))) by rw [hE1]; ac_rfl))
              have c0 := HRw.out.up3.cell 1
              simp only [List.getElem?_toArray, List.getElem?_cons_zero, List.getElem?_cons_succ] at c0
              obtain ⟨AK, cK, eK, hK1, hK2⟩ := HRw.out.row_sl
              rw [eK] at HRw c0
              have HEK := Lib.hid eK
              have hklen : h1.length ≤ 30 := by omega
              clear hE1 eK
              go_upto_region 20 with (at_builtin; refine wpList_appS rfl (.tmp 106) (.tmp 108) 38 rfl 39 i0 _ 1 24 Try.underlying38 hi0.out hz0.out hz1.out hz2.out rfl (by decide) (.slice AK h1.length cK) h1.length (h1.map slOf) rfl w _ (by exact HRw.out.alloc' _) (some ⟨wc.heap.size, 0, none⟩) 1 1 [slOf (A10, (long n x2).length, long n x2)] rfl (lit_rdv _ _ _) rfl (slOf_oneX _) (by unfold maxLen; omega) (by omega) ?_; intro A3 c3 w12 hs3; have HS14 := Lib.hid hs3; have f1 := hs3.up3.frozen 1; have c1 := hs3.up3.cell 1; simp only [List.getElem?_toArray, List.getElem?_cons_zero, List.getElem?_cons_succ] at c1; clear hs3)
              have HU2 : Hid (((txt (h1 ++ [E1])).flatMap split).length = U1 + needN n) := by
                unfold Hid
                rw [txt_append, List.flatMap_append, List.length_append, ← HU1.out, HE1.out]
                simp only [txt, List.map_cons, List.map_nil, List.flatMap_cons, List.flatMap_nil, List.append_nil, split_len, HLl.out]
              have HF2 : Hid ((txt (h1 ++ [E1])).flatMap split = (txt h1).flatMap split ++ split (long n x2)) := by
                unfold Hid
                rw [txt_append, List.flatMap_append, HE1.out]
                simp only [txt, List.map_cons, List.map_nil, List.flatMap_cons, List.flatMap_nil, List.append_nil]
              have HE2 : Hid (E1.2.2.length ≤ 3000) := by unfold Hid; rw [HE1.out]; show (long n x2).length ≤ _; rw [HLl.out]; exact hn3
              have hfin := (HS14.out.up3.set 1 (.slice A3 (h1.length + 1) c3)).of (show _ = Pt gU 86 #[.int .i64 ((U0 : Nat) : Int), .int .i64 (((U1 : Nat) : Int) + (needN n : Int))] * (Pt gH 85 #[u0, .slice A3 (h1.length + 1) c3] * (Row 39 1 u0 h0.length (h0.map slOf) * (Row 39 1 (.slice A3 (h1.length + 1) c3) (h1 ++ [E1]).length ((h1 ++ [E1]).map slOf) * (RoL h0 * (RoL (h1 ++ [E1]) * (SpaceP s d (waS bl ((txt h0).flatMap split) ((txt h1).flatMap split ++ split (long n x2))) * (Disk d D' * Emp))))))) from by
                simp only [List.map_append, List.length_append, List.length_singleton, List.map_cons, List.map_nil, ← rol_app, HE1.out]
                ac_rfl)
              rw [HU0.out] at hfin
              clear HS14 HRw HS13
              go_wp2_with (go_at_call 49; (with_reducible refine (num4_any _ _).mono ?_); rintro e wx ⟨rfl, rfl⟩)
              go_roundw
              · refine ⟨i + 1, u0, .slice A3 (h1.length + 1) c3, h0, (h1 ++ [E1]), D', by omega, by omega, by go_num, ?_, ?_, ?_, ?_, ?_, ⟨sf, lim, zl, ?_⟩, HC'.out.mono (by omega), HA'.out, by rw [HL'.out]; exact zn, ?_⟩
                · omega
                · rw [List.length_append]; show h1.length + 1 ≤ i + 1; omega
                · intro x hx
                  rcases List.mem_append.1 hx with hx | hx
                  · exact z3 x (List.mem_append_left _ hx)
                  · rcases List.mem_append.1 hx with hx | hx
                    · exact z3 x (List.mem_append_right _ hx)
                    · rw [List.mem_singleton.1 hx]; exact HE2.out
                · exact z4
                · rw [HU2.out]; omega
                · rw [HF2.out]; exact HG'.out
                · rw [HU2.out, HF2.out]; push_cast
                  exact hfin
              · simp [intOf]; omega
      · have hlt' : ¬ ((i : Int) < ks.length ∧ (i : Int) < 30) := by omega
        go_wp2_with fail
        all_goals
          go_meet
          exact ⟨u0, u1, h0, h1, D, by have := HD.out.1; omega, by have := HD.out.2.1; omega, HD.out.2.2.1, HD.out.2.2.2.2.2.1, HD.out.2.2.2.2.2.2.1.mono (by omega), HD.out.2.2.2.2.2.2.2.1, HD.out.2.2.2.2.2.2.2.2.1, HD.out.2.2.2.2.2.2.2.2.2⟩
  case rest =>
    obtain ⟨u0, u1, h0, h1, D, HC⟩ := hcut
    obtain ⟨y1, y2, y3, ⟨sf, lim, yl, yg⟩, yc, ya, yn, ys⟩ := HC.out
    obtain ⟨A0, c0, rfl, _⟩ := ys.up3.row_sl
    obtain ⟨A1, c1, rfl, _⟩ := ys.up4.row_sl
    obtain ⟨U0, hU0⟩ : ∃ U : Nat, U = ((txt h0).flatMap split).length := ⟨_, rfl⟩
    obtain ⟨U1, hU1⟩ : ∃ U : Nat, U = ((txt h1).flatMap split).length := ⟨_, rfl⟩
    rw [← hU0, ← hU1] at ys
    have HU0 := Lib.hid hU0; have HU1 := Lib.hid hU1; have HG := Lib.hid yg; have HX := Lib.hid y3; have HY := Lib.hid ys; have HCn := Lib.hid yc; have HAr := Lib.hid ya; have HLn := Lib.hid yn
    clear HC hU0 hU1 yg y3 ys yc ya yn
    go_wp2_with fail
    go_loopw [15] (fun kv wr => ∃ k : Nat, k ≤ 2 ∧ kv = .int .i64 (k : Int) ∧ Hid (Sat w (Pt gU 86 #[.int .i64 (U0 : Int), .int .i64 (U1 : Int)] * (Pt gH 85 #[.slice A0 h0.length c0, .slice A1 h1.length c1] * (Row 39 1 (.slice A0 h0.length c0) h0.length (h0.map slOf) * (Row 39 1 (.slice A1 h1.length c1) h1.length (h1.map slOf) * (RoL h0 * (RoL h1 * (SpaceP s d (waS bl ((txt h0).flatMap split) ((txt h1).flatMap split)) * (Disk d D * Emp)))))))) wr)) (fun kv _ => 2 - (intOf kv).toNat)
    case atStart => exact ⟨0, by omega, rfl, HY.out⟩
    case round =>
      obtain ⟨k, hk2, rfl, HS⟩ := hrel
      rcases (show k = 0 ∨ k = 1 ∨ k = 2 by omega) with rfl | rfl | rfl
      ·
        have HRd : Hid (Calls Try.prog 23 #[.pointer (some ⟨s, 0, none⟩), .int .i64 3] wr fun e w' => ∃ A14 c14 rs, e = .returned (.tuple #[.slice A14 h0.length c14, .int .i64 0]) ∧ txt rs = txt h0 ∧ rs.length = h0.length ∧ Sat w (Row 39 1 (.slice A14 h0.length c14) h0.length (rs.map slOf) * (OwnR rs * (SpaceP s d (waS bl ((txt h0).flatMap split) ((txt h1).flatMap split)) * (Disk d D * (Pt gU 86 #[.int .i64 (U0 : Int), .int .i64 (U1 : Int)] * (Pt gH 85 #[.slice A0 h0.length c0, .slice A1 h1.length c1] * (Row 39 1 (.slice A0 h0.length c0) h0.length (h0.map slOf) * (Row 39 1 (.slice A1 h1.length c1) h1.length (h1.map slOf) * (RoL h0 * (RoL h1 * Emp)))))))))) w') := (read_sp HG.out (HS.out.of (show _ = SpaceP s d (waS bl ((txt h0).flatMap split) ((txt h1).flatMap split)) * (Disk d D * (Pt gU 86 #[.int .i64 (U0 : Int), .int .i64 (U1 : Int)] * (Pt gH 85 #[.slice A0 h0.length c0, .slice A1 h1.length c1] * (Row 39 1 (.slice A0 h0.length c0) h0.length (h0.map slOf) * (Row 39 1 (.slice A1 h1.length c1) h1.length (h1.map slOf) * (RoL h0 * (RoL h1 * Emp))))))) by ac_rfl)) (wa_find3 bl _ _)).mono fun e w' ⟨u, rs, e1, e2, e3⟩ => by
          have e4 : txt rs = txt h0 := e2.trans (whole_splits _ (fun b hb => by
            obtain ⟨x, hx, rfl⟩ := List.mem_map.1 hb
            have := HX.out x (List.mem_append_left _ hx)
            omega))
          have e5 : rs.length = h0.length := by have := congrArg List.length e4; simpa [txt] using this
          rw [e5] at e3
          obtain ⟨A14, c14, rfl, _⟩ := e3.row_sl
          exact ⟨A14, c14, rs, e1, e4, e5, e3⟩
        go_upto_region 26 with (go_at_call 23; (with_reducible refine HRd.out.mono ?_); rintro e w14 ⟨A14, c14, rs, rfl, hrt, hrl, hs14⟩; have HS14 := Lib.hid hs14; have HRl := Lib.hid hrl; have HRt := Lib.hid hrt; clear hs14 hrl hrt)
        have HFr : Hid (Calls Try.prog 30 #[.pointer (some ⟨s, 0, none⟩), .int .i64 3] w14 fun e w' => ∃ A15 c15, e = .returned (.tuple #[.slice A15 U0 c15, .int .i64 0]) ∧ Sat w (Row 39 1 (.slice A14 h0.length c14) h0.length (rs.map slOf) * (OwnR rs * (SpaceP s d (waS bl ((txt h0).flatMap split) ((txt h1).flatMap split)) * (Disk d D * (Pt gU 86 #[.int .i64 (U0 : Int), .int .i64 (U1 : Int)] * (Pt gH 85 #[.slice A0 h0.length c0, .slice A1 h1.length c1] * (Row 39 1 (.slice A0 h0.length c0) h0.length (h0.map slOf) * (Row 39 1 (.slice A1 h1.length c1) h1.length (h1.map slOf) * (RoL h0 * (RoL h1 * Emp)))))))))) w') := (frames_sp HG.out (HS14.out.of (show _ = SpaceP s d (waS bl ((txt h0).flatMap split) ((txt h1).flatMap split)) * (Disk d D * (Row 39 1 (.slice A14 h0.length c14) h0.length (rs.map slOf) * (OwnR rs * (Pt gU 86 #[.int .i64 (U0 : Int), .int .i64 (U1 : Int)] * (Pt gH 85 #[.slice A0 h0.length c0, .slice A1 h1.length c1] * (Row 39 1 (.slice A0 h0.length c0) h0.length (h0.map slOf) * (Row 39 1 (.slice A1 h1.length c1) h1.length (h1.map slOf) * (RoL h0 * (RoL h1 * Emp))))))))) by ac_rfl)) (wa_find3 bl _ _)).mono fun e w' ⟨u, ts, e1, e2, e3⟩ => by
          have e5 : ts.length = U0 := by
            rw [HU0.out]
            have := congrArg List.length e2
            unfold txt at this
            rw [List.length_map] at this
            exact this
          rw [e5] at e3
          obtain ⟨A15, c15, rfl, _⟩ := e3.row_sl
          exact ⟨A15, c15, e1, e3.right.right.of (by ac_rfl)⟩
        go_upto_region 27 with (go_at_call 30; (with_reducible refine HFr.out.mono ?_); rintro e w15 ⟨A15, c15, rfl, hs15⟩; have HS15 := Lib.hid hs15; clear hs15)
        have HRow := Lib.hid (HS15.out.of (show _ = Row 39 1 (.slice A0 h0.length c0) h0.length (h0.map slOf) * (RoL h0 * (OwnR rs * (Pt gU 86 #[.int .i64 (U0 : Int), .int .i64 (U1 : Int)] * (Pt gH 85 #[.slice A0 h0.length c0, .slice A1 h1.length c1] * (Row 39 1 (.slice A1 h1.length c1) h1.length (h1.map slOf) * (RoL h1 * (SpaceP s d (waS bl ((txt h0).flatMap split) ((txt h1).flatMap split)) * (Disk d D * (Row 39 1 (.slice A14 h0.length c14) h0.length (rs.map slOf) * Emp))))))))) by ac_rfl))
        have HLi : Hid (∀ W, Chg No w15 W → Calls Try.prog 53 #[.slice A14 h0.length c14, .slice A0 h0.length c0] W fun e w' => e = .returned (.bool true) ∧ Chg No W w') := fun W hW => by
          have h8 := lists_same A14 A0 c14 c0 rs h0 W ⟨(HS15.out.new hW).row_rdvX, fun x hx => OwnR_rd (HS15.out.new hW).up2 hx⟩ ⟨(HRow.out.new hW).row_rdvX, fun x hx => (HRow.out.new hW).up2.rol hx⟩ HRt.out (by rw [HRl.out]; omega)
          rw [HRl.out] at h8
          exact h8
        have g1 := HRow.out.up4.cell 0
        have g2 := HRow.out.up5.cell 0
        simp only [List.getElem?_toArray, List.getElem?_cons_zero] at g1 g2
        have hne : (((U0 : Nat) : Int) != (U0 : Int)) = false := by simp
        go_wp2_with (first
          | (go_at_call 49; (with_reducible refine (num4_any _ _).mono ?_); rintro e wx ⟨rfl, rfl⟩)
          | (go_at_call 53; (with_reducible refine (HLi.out _ (Chg.refl _ _)).mono ?_); rintro e w16 ⟨rfl, hk16⟩; have HR6 := Lib.hid (HRow.out.new hk16); have g3 := HR6.out.up4.cell 0; simp only [List.getElem?_toArray, List.getElem?_cons_zero] at g3; clear hk16))
        go_roundw
        · exact ⟨1, by omega, by go_num, Sat.right (A := OwnR rs * Row 39 1 (.slice A14 h0.length c14) h0.length (rs.map slOf)) (HR6.out.of (by ac_rfl))⟩
        · simp [intOf]
      ·
        have HRd : Hid (Calls Try.prog 23 #[.pointer (some ⟨s, 0, none⟩), .int .i64 4] wr fun e w' => ∃ A14 c14 rs, e = .returned (.tuple #[.slice A14 h1.length c14, .int .i64 0]) ∧ txt rs = txt h1 ∧ rs.length = h1.length ∧ Sat w (Row 39 1 (.slice A14 h1.length c14) h1.length (rs.map slOf) * (OwnR rs * (SpaceP s d (waS bl ((txt h0).flatMap split) ((txt h1).flatMap split)) * (Disk d D * (Pt gU 86 #[.int .i64 (U0 : Int), .int .i64 (U1 : Int)] * (Pt gH 85 #[.slice A0 h0.length c0, .slice A1 h1.length c1] * (Row 39 1 (.slice A0 h0.length c0) h0.length (h0.map slOf) * (Row 39 1 (.slice A1 h1.length c1) h1.length (h1.map slOf) * (RoL h0 * (RoL h1 * Emp)))))))))) w') := (read_sp HG.out (HS.out.of (show _ = SpaceP s d (waS bl ((txt h0).flatMap split) ((txt h1).flatMap split)) * (Disk d D * (Pt gU 86 #[.int .i64 (U0 : Int), .int .i64 (U1 : Int)] * (Pt gH 85 #[.slice A0 h0.length c0, .slice A1 h1.length c1] * (Row 39 1 (.slice A0 h0.length c0) h0.length (h0.map slOf) * (Row 39 1 (.slice A1 h1.length c1) h1.length (h1.map slOf) * (RoL h0 * (RoL h1 * Emp))))))) by ac_rfl)) (wa_find4 bl _ _)).mono fun e w' ⟨u, rs, e1, e2, e3⟩ => by
          have e4 : txt rs = txt h1 := e2.trans (whole_splits _ (fun b hb => by
            obtain ⟨x, hx, rfl⟩ := List.mem_map.1 hb
            have := HX.out x (List.mem_append_right _ hx)
            omega))
          have e5 : rs.length = h1.length := by have := congrArg List.length e4; simpa [txt] using this
          rw [e5] at e3
          obtain ⟨A14, c14, rfl, _⟩ := e3.row_sl
          exact ⟨A14, c14, rs, e1, e4, e5, e3⟩
        go_upto_region 26 with (go_at_call 23; (with_reducible refine HRd.out.mono ?_); rintro e w14 ⟨A14, c14, rs, rfl, hrt, hrl, hs14⟩; have HS14 := Lib.hid hs14; have HRl := Lib.hid hrl; have HRt := Lib.hid hrt; clear hs14 hrl hrt)
        have HFr : Hid (Calls Try.prog 30 #[.pointer (some ⟨s, 0, none⟩), .int .i64 4] w14 fun e w' => ∃ A15 c15, e = .returned (.tuple #[.slice A15 U1 c15, .int .i64 0]) ∧ Sat w (Row 39 1 (.slice A14 h1.length c14) h1.length (rs.map slOf) * (OwnR rs * (SpaceP s d (waS bl ((txt h0).flatMap split) ((txt h1).flatMap split)) * (Disk d D * (Pt gU 86 #[.int .i64 (U0 : Int), .int .i64 (U1 : Int)] * (Pt gH 85 #[.slice A0 h0.length c0, .slice A1 h1.length c1] * (Row 39 1 (.slice A0 h0.length c0) h0.length (h0.map slOf) * (Row 39 1 (.slice A1 h1.length c1) h1.length (h1.map slOf) * (RoL h0 * (RoL h1 * Emp)))))))))) w') := (frames_sp HG.out (HS14.out.of (show _ = SpaceP s d (waS bl ((txt h0).flatMap split) ((txt h1).flatMap split)) * (Disk d D * (Row 39 1 (.slice A14 h1.length c14) h1.length (rs.map slOf) * (OwnR rs * (Pt gU 86 #[.int .i64 (U0 : Int), .int .i64 (U1 : Int)] * (Pt gH 85 #[.slice A0 h0.length c0, .slice A1 h1.length c1] * (Row 39 1 (.slice A0 h0.length c0) h0.length (h0.map slOf) * (Row 39 1 (.slice A1 h1.length c1) h1.length (h1.map slOf) * (RoL h0 * (RoL h1 * Emp))))))))) by ac_rfl)) (wa_find4 bl _ _)).mono fun e w' ⟨u, ts, e1, e2, e3⟩ => by
          have e5 : ts.length = U1 := by
            rw [HU1.out]
            have := congrArg List.length e2
            unfold txt at this
            rw [List.length_map] at this
            exact this
          rw [e5] at e3
          obtain ⟨A15, c15, rfl, _⟩ := e3.row_sl
          exact ⟨A15, c15, e1, e3.right.right.of (by ac_rfl)⟩
        go_upto_region 27 with (go_at_call 30; (with_reducible refine HFr.out.mono ?_); rintro e w15 ⟨A15, c15, rfl, hs15⟩; have HS15 := Lib.hid hs15; clear hs15)
        have HRow := Lib.hid (HS15.out.of (show _ = Row 39 1 (.slice A1 h1.length c1) h1.length (h1.map slOf) * (RoL h1 * (OwnR rs * (Pt gU 86 #[.int .i64 (U0 : Int), .int .i64 (U1 : Int)] * (Pt gH 85 #[.slice A0 h0.length c0, .slice A1 h1.length c1] * (Row 39 1 (.slice A0 h0.length c0) h0.length (h0.map slOf) * (RoL h0 * (SpaceP s d (waS bl ((txt h0).flatMap split) ((txt h1).flatMap split)) * (Disk d D * (Row 39 1 (.slice A14 h1.length c14) h1.length (rs.map slOf) * Emp))))))))) by ac_rfl))
        have HLi : Hid (∀ W, Chg No w15 W → Calls Try.prog 53 #[.slice A14 h1.length c14, .slice A1 h1.length c1] W fun e w' => e = .returned (.bool true) ∧ Chg No W w') := fun W hW => by
          have h8 := lists_same A14 A1 c14 c1 rs h1 W ⟨(HS15.out.new hW).row_rdvX, fun x hx => OwnR_rd (HS15.out.new hW).up2 hx⟩ ⟨(HRow.out.new hW).row_rdvX, fun x hx => (HRow.out.new hW).up2.rol hx⟩ HRt.out (by rw [HRl.out]; omega)
          rw [HRl.out] at h8
          exact h8
        have g1 := HRow.out.up4.cell 1
        have g2 := HRow.out.up5.cell 1
        simp only [List.getElem?_toArray, List.getElem?_cons_zero, List.getElem?_cons_succ] at g1 g2
        have hne : (((U1 : Nat) : Int) != (U1 : Int)) = false := by simp
        go_wp2_with (first
          | (go_at_call 49; (with_reducible refine (num4_any _ _).mono ?_); rintro e wx ⟨rfl, rfl⟩)
          | (go_at_call 53; (with_reducible refine (HLi.out _ (Chg.refl _ _)).mono ?_); rintro e w16 ⟨rfl, hk16⟩; have HR6 := Lib.hid (HRow.out.new hk16); have g3 := HR6.out.up4.cell 1; simp only [List.getElem?_toArray, List.getElem?_cons_zero, List.getElem?_cons_succ] at g3; clear hk16))
        go_roundw
        · exact ⟨2, by omega, by go_num, Sat.right (A := OwnR rs * Row 39 1 (.slice A14 h1.length c14) h1.length (rs.map slOf)) (HR6.out.of (by ac_rfl))⟩
        · simp [intOf]
      · have HRn := Lib.hid (read_none (n := 9) HG.out (HS.out.of (show _ = SpaceP s d (waS bl ((txt h0).flatMap split) ((txt h1).flatMap split)) * (Disk d D * (Pt gU 86 #[.int .i64 (U0 : Int), .int .i64 (U1 : Int)] * (Pt gH 85 #[.slice A0 h0.length c0, .slice A1 h1.length c1] * (Row 39 1 (.slice A0 h0.length c0) h0.length (h0.map slOf) * (Row 39 1 (.slice A1 h1.length c1) h1.length (h1.map slOf) * (RoL h0 * (RoL h1 * Emp))))))) by ac_rfl)) (wa_find9 bl _ _))
        have hap := wapp_sp (b := []) 9 none 0 HG.out HCn.out (by omega) (by rw [HAr.out]; omega) (HS.out.of (show _ = SpaceP s d (waS bl ((txt h0).flatMap split) ((txt h1).flatMap split)) * (Disk d D * (Pt gU 86 #[.int .i64 (U0 : Int), .int .i64 (U1 : Int)] * (Pt gH 85 #[.slice A0 h0.length c0, .slice A1 h1.length c1] * (Row 39 1 (.slice A0 h0.length c0) h0.length (h0.map slOf) * (Row 39 1 (.slice A1 h1.length c1) h1.length (h1.map slOf) * (RoL h0 * (RoL h1 * Emp))))))) by ac_rfl)) (fun W hW => Rd.nil _ _) (Nat.le_refl _) (by omega)
        rw [wapp_none (wa_find9 bl _ _)] at hap
        have HAp : Hid (Calls Try.prog 19 #[.pointer (some ⟨s, 0, none⟩), .int .i64 9, .slice none 0 0] wr fun e w' => e = .returned (.int .i64 34) ∧ Sat w (SpaceP s d (waS bl ((txt h0).flatMap split) ((txt h1).flatMap split)) * (Disk d D * (Pt gU 86 #[.int .i64 (U0 : Int), .int .i64 (U1 : Int)] * (Pt gH 85 #[.slice A0 h0.length c0, .slice A1 h1.length c1] * (Row 39 1 (.slice A0 h0.length c0) h0.length (h0.map slOf) * (Row 39 1 (.slice A1 h1.length c1) h1.length (h1.map slOf) * (RoL h0 * (RoL h1 * Emp)))))))) w') := hap
        clear hap
        have HBl : Hid (∀ W, Sat w (SpaceP s d (waS bl ((txt h0).flatMap split) ((txt h1).flatMap split)) * (Disk d D * (Pt gU 86 #[.int .i64 (U0 : Int), .int .i64 (U1 : Int)] * (Pt gH 85 #[.slice A0 h0.length c0, .slice A1 h1.length c1] * (Row 39 1 (.slice A0 h0.length c0) h0.length (h0.map slOf) * (Row 39 1 (.slice A1 h1.length c1) h1.length (h1.map slOf) * (RoL h0 * (RoL h1 * Emp)))))))) W → Calls Try.prog 33 #[.pointer (some ⟨d, 0, none⟩)] W fun e w' => e = .returned (.int .i64 64) ∧ W = w') := fun W hW => (blocks_any d D w W _ hW.up2).mono fun e w' ⟨e1, e2⟩ => ⟨by rw [e1, HLn.out]; rfl, e2⟩
        go_wp2_with (first
          | (go_at_call 49; (with_reducible refine (num4_any _ _).mono ?_); rintro e wx ⟨rfl, rfl⟩)
          | (go_at_call 23; (with_reducible refine HRn.out.mono ?_); rintro e wx ⟨rfl, rfl⟩)
          | (go_at_call 19; (with_reducible refine HAp.out.mono ?_); rintro e w20 ⟨rfl, hs20⟩; have HS20 := Lib.hid hs20; clear hs20)
          | (go_at_call 33; (with_reducible refine (HBl.out _ HS20.out).mono ?_); rintro e wx ⟨rfl, rfl⟩))
        go_ret
        exact ⟨rfl, HS20.out.chg⟩
end Go.Proofs.Ytjmapbhgjhlefaa
