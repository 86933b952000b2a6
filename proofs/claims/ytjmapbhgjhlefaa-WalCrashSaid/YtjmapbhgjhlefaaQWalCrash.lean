/- WalCrash: the walk. -/
import Derived.Deep.CutBlock
import Derived.Test.YtjmapbhgjhlefaaQ14
import Derived.Test.YtjmapbhgjhlefaaQWalCut
import Derived.Test.YtjmapbhgjhlefaaQWalAgain
import Derived.Test.YtjmapbhgjhlefaaQWalLong
import Derived.Test.YtjmapbhgjhlefaaQOwnL2
import Derived.Test.YtjmapbhgjhlefaaQOpen3
import Derived.Test.YtjmapbhgjhlefaaQRowCut
namespace Go.Proofs.Ytjmapbhgjhlefaa
open Go.RowKit
set_option linter.unusedVariables false
set_option maxRecDepth 100000

set_option maxHeartbeats 8000000 in
theorem walCrash_walk (LA : Option Addr) (lc : Nat) (ls : List (Int × Int × Int × Int)) (CA : Option Addr) (cc : Nat) (ks : Bools_) (w : World)
    (hL : ls.length ≤ lc ∧ lc ≤ maxLen ∧ RdV w LA (ls.flatMap v4) ∧ ls.length * 32 ≤ 140737488351232 ∧ ∀ y ∈ ls, isI64 y.1 ∧ isI64 y.2.1 ∧ isI64 y.2.2.1 ∧ isI64 y.2.2.2)
    (hK : ks.length ≤ cc ∧ cc ≤ maxLen ∧ RdV w CA (ks.flatMap slB) ∧ ks.length * 24 ≤ 140737488351232 ∧ ∀ y ∈ ks, BoolsOk w y) :
    Calls Try.prog 12 #[.slice LA ls.length lc, .slice CA ks.length cc] w (Asked true w) := by
  obtain ⟨i0, hi0', hz0', hz1', hz2'⟩ := info_parts info_sl
  have hi0 := Lib.hid hi0'; have hz0 := Lib.hid hz0'; have hz1 := Lib.hid hz1'; have hz2 := Lib.hid hz2'
  obtain ⟨D1, e1, hi1, hl1⟩ := wc_begin (N := 80) (bn := 70) (by omega) (by omega)
  obtain ⟨D0, hD0⟩ : ∃ D, D = beginD 80 := ⟨_, rfl⟩
  have hg0 : Good D0 ⟨1, 1, []⟩ (fun _ => 0) 1 := by rw [hD0]; exact begin_good (by omega) (by omega)
  have ha0 : D0.armed = 0 := by rw [hD0]; exact begin_armed
  have hc0 : Cnt D0 1 := by rw [hD0]; exact begin_cnt
  rw [← hD0] at e1
  have HG0 := Lib.hid hg0; have HC0 := Lib.hid hc0; have HE1 := Lib.hid e1; have HL := Lib.hid hL; have HK := Lib.hid hK
  have HI1 := Lib.hid hi1; have HL1 := Lib.hid hl1
  have HA0 : Hid (D0.armed ≤ 9223372036854775807) := by unfold Hid; omega
  have HB : Hid (Calls Try.prog 24 #[.int .i64 80] w fun e w' => ∃ d s, e = .returned (.tuple #[.pointer (some ⟨d, 0, none⟩), .pointer (some ⟨s, 0, none⟩)]) ∧ Sat w (SpaceP s d ⟨1, 1, []⟩ * (Disk d D0 * Emp)) w') := by rw [hD0]; exact begin_any (w0 := w) (F := Emp) 80 (by omega) (Sat.start w)
  clear hD0 hg0 ha0 hc0 e1 hi1 hl1 hi0' hz0' hz1' hz2' hL hK
  go_enter Try.func12, Try.ntmps12
  go_upto_region 2 with (go_at_call 24; (with_reducible refine HB.out.mono ?_); rintro e w2 ⟨d, s, rfl, hs⟩; have HS2 := Lib.hid hs; clear hs)
  clear HB
  go_upto_region 4 with (first
    | (go_at_call 17; have h8 := HS2.out.allocPt 35 #[.int .i64 1, .int .i64 0, .int .i64 70]; have h9 := sw_add w2.heap.size 1 1 _ [⟨1, 0, 70⟩] HG0.out (by omega) HC0.out (by omega) HA0.out h8 rfl rfl (by omega) (fun f hf => by rw [List.mem_singleton.1 hf]; exact ⟨by dsimp only; omega, by dsimp only; omega⟩) HE1.out; (with_reducible refine h9.mono ?_); rintro e w4 ⟨rfl, hs⟩; have HS4 := Lib.hid hs; clear hs h9 h8)
    | (go_at_call 49; (with_reducible refine (num4_any _ _).mono ?_); rintro e wx ⟨rfl, rfl⟩)
    | (go_at_call 51; (with_reducible refine (wakes_any _).mono ?_); rintro e w5 ⟨rfl, hk⟩; have HS5 := Lib.hid (HS4.out.new hk); clear hk))
  clear HS2 HS4
  go_wp2_with fail
  go_loopw [6, 7, 8] (fun sv hv iv wr => ∃ (i s l : Nat) (A : Option Addr) (c : Nat) (hs : Rows_) (F : List (List UInt8)) (D : Dk), i ≤ ls.length ∧ i ≤ 8 ∧ sv = .pointer (some ⟨s, 0, none⟩) ∧ hv = .slice A hs.length c ∧ iv = .int .i64 (i : Int) ∧ Hid (WcIn 70 l D F (txt hs) hs.length (2 + i) (2 + 1644 * i) ∧ D.cells.length = 80 ∧ hs.length ≤ 3 * i ∧
    Sat w (Row 39 1 (.slice A hs.length c) hs.length (hs.map slOf) * (RoL hs * (SpaceP s d (wcS 70 l F) * (Disk d D * Emp)))) wr)) (fun _ _ iv _ => 8 - (intOf iv).toNat)
  case atStart =>
    have h1 : Sat w (Row 39 1 (.slice none 0 0) 0 [] * (RoL [] * (SpaceP s d (wcS 70 1 []) * (Disk d D1 * Emp)))) w5 := (HS5.out.rolNil [] (by simp)).row_nil _ 1
    exact ⟨0, s, 1, none, 0, [], [], D1, by omega, by omega, rfl, rfl, rfl, HI1.out, HL1.out, by simp, h1⟩
  case round =>
    obtain ⟨i, s, l, A, c, hs, F, D, hi, hi8, rfl, rfl, rfl, HD⟩ := hrel
    by_cases hlt : i < ls.length ∧ i < 8
    · have hk2 : (i : Int) < ls.length := by omega
      have hk3 : (i : Int) < 8 := by omega
      have HSw := Lib.hid HD.out.2.2.2
      obtain ⟨b, o, rfl, hc⟩ := RdV.elem (f := v4) (k := 4) (fun _ => rfl) (by decide) (HL.out.2.2.1.new HSw.out.chg) hlt.1
      have q0 : wr.cell? ⟨b, o + i * 4, none⟩ = some (.int .i64 ls[i].1) := hc 0 (by omega)
      have q1 : wr.cell? ⟨b, o + i * 4 + 1, none⟩ = some (.int .i64 ls[i].2.1) := hc 1 (by omega)
      have q2 : wr.cell? ⟨b, o + i * 4 + 2, none⟩ = some (.int .i64 ls[i].2.2.1) := hc 2 (by omega)
      have q3 : wr.cell? ⟨b, o + i * 4 + 3, none⟩ = some (.int .i64 ls[i].2.2.2) := hc 3 (by omega)
      have hxw := HL.out.2.2.2.2 ls[i] (List.getElem_mem hlt.1)
      clear hc
      generalize ls[i] = x at *
      obtain ⟨x0, x1, x2, x3⟩ := x
      dsimp only at q0 q1 q2 q3 hxw
      go_upto_region 9 with fail
      have hal := HSw.out.allocPt 91 #[.int .i64 x0, .int .i64 x1, .int .i64 x2, .int .i64 x3]
      have hIn := HD.out.1.arm (n := (1 + x0 % 16).toNat) (by omega)
      have HLn := Lib.hid HD.out.2.1; have HHs := Lib.hid HD.out.2.2.1
      generalize hW : World.alloc wr _ = w9
      have HS9 : Hid (Sat w (Pt wr.heap.size 91 #[.int .i64 x0, .int .i64 x1, .int .i64 x2, .int .i64 x3] * (Row 39 1 (.slice A hs.length c) hs.length (hs.map slOf) * (RoL hs * (SpaceP s d (wcS 70 l F) * (Disk d D * Emp))))) w9) := by unfold Hid; rw [← hW]; exact hal
      clear hW hal HSw HD q0 q1 q2 q3
      revert HS9
      generalize wr.heap.size = gx
      intro HS9
      have p0 := HS9.out.cell 0
      have p1 := HS9.out.cell 1
      have p2 := HS9.out.cell 2
      have p3 := HS9.out.cell 3
      simp only [List.getElem?_toArray, List.getElem?_cons_zero, List.getElem?_cons_succ] at p0 p1 p2 p3
      have hm0 : bits .and .i64 x0 15 = x0 % 16 := and15 x0
      have hm3 : bits .and .i64 x3 15 = x3 % 16 := and15 x3
      have HAr : Hid (Calls Try.prog 18 #[.pointer (some ⟨d, 0, none⟩), .int .i64 (1 + x0 % 16)] w9 fun e w' => e = .returned (.tuple #[]) ∧ Sat w (Pt gx 91 #[.int .i64 x0, .int .i64 x1, .int .i64 x2, .int .i64 x3] * (Row 39 1 (.slice A hs.length c) hs.length (hs.map slOf) * (RoL hs * (SpaceP s d (wcS 70 l F) * (Disk d { D with armed := (1 + x0 % 16).toNat } * Emp))))) w') := (arm_any d D (1 + x0 % 16) w w9 _ (HS9.out.of (show _ = Disk d D * (Pt gx 91 #[.int .i64 x0, .int .i64 x1, .int .i64 x2, .int .i64 x3] * (Row 39 1 (.slice A hs.length c) hs.length (hs.map slOf) * (RoL hs * (SpaceP s d (wcS 70 l F) * Emp)))) by ac_rfl))).mono fun e w' ⟨h1, h2⟩ => ⟨h1, h2.of (by ac_rfl)⟩
      obtain ⟨D2, hD2⟩ : ∃ D2 : Dk, D2 = { D with armed := (1 + x0 % 16).toNat } := ⟨_, rfl⟩
      rw [← hD2] at HAr hIn
      have HIn := Lib.hid hIn
      have HLn2 : Hid (D2.cells.length = 80) := by unfold Hid; rw [hD2]; exact HLn.out
      have HHl : Hid (hs.length ≤ 24) := by unfold Hid; have := HHs.out; omega
      have hhl : (hs.length : Int) ≤ 24 := by have := HHl.out; omega
      clear hD2 hIn HLn
      go_upto_block 2 with (go_at_call 18; (with_reducible refine HAr.out.mono ?_); rintro e w10 ⟨rfl, hs10⟩; have HS10 := Lib.hid hs10; clear hs10)
      go_cut [7, 10] (fun hv sv wx => ∃ (A2 : Option Addr) (c2 safe : Nat) (hs2 : Rows_) (S2 : Spc) (D3 : Dk), hv = .slice A2 hs2.length c2 ∧ sv = .int .i64 (safe : Int) ∧ Hid (WcOut 70 D3 (txt hs2) safe (2 + i) ∧ Cnt D3 (2 + 1644 * i + 1644) ∧ D3.cells.length = 80 ∧ hs2.length ≤ 3 * i + 3 ∧ Sat w (Pt gx 91 #[.int .i64 x0, .int .i64 x1, .int .i64 x2, .int .i64 x3] * (Row 39 1 (.slice A2 hs2.length c2) hs2.length (hs2.map slOf) * (RoL hs2 * (SpaceP s d S2 * (Disk d D3 * Emp))))) wx))
      case first =>
        go_wp2_with fail
        go_loopw [7, 10, 11] (fun hv sv kv wr => ∃ (k safe : Nat) (A2 : Option Addr) (c2 : Nat) (hs2 : Rows_) (F2 : List (List UInt8)) (D3 : Dk), k ≤ 3 ∧ kv = .int .i64 (k : Int) ∧ hv = .slice A2 hs2.length c2 ∧ sv = .int .i64 (safe : Int) ∧ Hid (WcIn 70 l D3 F2 (txt hs2) safe (2 + i) (2 + 1644 * i + 548 * k) ∧ D3.cells.length = 80 ∧ hs2.length ≤ 3 * i + k ∧ Sat w (Pt gx 91 #[.int .i64 x0, .int .i64 x1, .int .i64 x2, .int .i64 x3] * (Row 39 1 (.slice A2 hs2.length c2) hs2.length (hs2.map slOf) * (RoL hs2 * (SpaceP s d (wcS 70 l F2) * (Disk d D3 * Emp))))) wr)) (fun _ _ kv _ => 3 - (intOf kv).toNat)
        case atStart => exact ⟨0, hs.length, A, c, hs, F, D2, by omega, rfl, rfl, rfl, HIn.out, HLn2.out, HHs.out, HS10.out⟩
        case round =>
          obtain ⟨k, safe, A2, c2, hs2, F2, D3, hk3', rfl, rfl, rfl, HD⟩ := hrel
          by_cases hkl : k < 3
          · have hkl' : (k : Int) < 3 := by omega
            have p1 := HD.out.2.2.2.cell 1
            have p2 := HD.out.2.2.2.cell 2
            simp only [List.getElem?_toArray, List.getElem?_cons_zero, List.getElem?_cons_succ] at p1 p2
            obtain ⟨n, hn, HWi⟩ : ∃ n : Nat, n ≤ 1200 ∧ Hid (∀ W, Calls Try.prog 28 #[.int .i64 (wrap64 (x1 + 400 * (k : Int))), .int .i64 0, .int .i64 1200] W fun e w' => e = .returned (.int .i64 (n : Int)) ∧ W = w') := ⟨wi (wrap64 (x1 + 400 * (k : Int))) 1200, by have := wi_le (wrap64 (x1 + 400 * (k : Int))) 1200 (by omega); omega, fun W => within0 _ 1200 W (by omega) (by omega)⟩
            obtain ⟨bb, hbb⟩ : ∃ bb, bb = long n (16 * (i : Int) + (k : Int)) := ⟨_, rfl⟩
            have HBl : Hid (bb.length = n) := by unfold Hid; rw [hbb]; exact length_long _ _
            have HLo : Hid (∀ W, Calls Try.prog 48 #[.int .i64 (n : Int), .int .i64 (16 * (i : Int) + (k : Int))] W (Longed bb W)) := by rw [hbb]; exact fun W => long_any n _ W (by omega)
            clear hbb
            go_upto_region 15 with (first
              | (go_at_call 28; (with_reducible refine (HWi.out _).mono ?_); rintro e wx ⟨rfl, rfl⟩)
              | (go_at_call 48; (with_reducible refine (HLo.out _).mono ?_); rintro e w10 hl10; obtain ⟨A10, rfl, hs10⟩ := HD.out.2.2.2.longed hl10; have HS10 := Lib.hid hs10; clear hs10 hl10))
            obtain ⟨sf, hsg, hsc⟩ := HD.out.1.good
            have hap := wapp_sp (b := bb) 1 A10 bb.length hsg HD.out.1.cnt (by omega) (by have := HD.out.1.armed; omega) (HS10.out.of (show _ = SpaceP s d (wcS 70 l F2) * (Disk d D3 * (RoL [(A10, bb.length, bb)] * (Pt gx 91 #[.int .i64 x0, .int .i64 x1, .int .i64 x2, .int .i64 x3] * (Row 39 1 (.slice A2 hs2.length c2) hs2.length (hs2.map slOf) * (RoL hs2 * Emp))))) by ac_rfl)) (fun W hW => hW.rol List.mem_cons_self) (Nat.le_refl _) (by have := HBl.out; omega)
            have hhl2 : hs2.length ≤ 30 := by have := HD.out.2.2.1; omega
            rcases HD.out.1.put (b := bb) (by omega) (by have := HBl.out; omega) with e | ⟨D4, e, hIn4, hl4⟩ | ⟨S4, D4, e, hOut4, hc4, hl4⟩
            · rw [e] at hap
              have HAp := Lib.hid hap
              have HOut := Lib.hid (HD.out.1.wcOut (by omega))
              have HC := Lib.hid (HD.out.1.cnt.mono (m := 2 + 1644 * i + 1644) (by omega)); have HL3 := Lib.hid HD.out.2.1; have HH3 := Lib.hid HD.out.2.2.1
              clear hap e HS10 HD hsg hsc p1 p2
              go_wp2_with (first
                | (go_at_call 19; (with_reducible refine HAp.out.mono ?_); rintro e w11 ⟨rfl, hs11⟩; have HS11 := Lib.hid hs11; clear hs11)
                | (go_at_call 49; (with_reducible refine (num4_any _ _).mono ?_); rintro e wx ⟨rfl, rfl⟩))
              go_meet
              exact ⟨A2, c2, safe, hs2, _, D3, rfl, rfl, HOut.out, HC.out, HL3.out, by have := HH3.out; omega, HS11.out.drop3.of (by ac_rfl)⟩
            · rw [e] at hap
              have HAp := Lib.hid hap
              have HIn4 := Lib.hid hIn4; have HL4 := Lib.hid hl4; have HL3 := Lib.hid HD.out.2.1; have HH3 := Lib.hid HD.out.2.2.1
              clear hap e HS10 HD hsg hsc hIn4 hl4 p1 p2
              go_upto_region 21 with (first
                | (go_at_call 19; (with_reducible refine HAp.out.mono ?_); rintro e w11 ⟨rfl, hs11⟩; have HRw := Lib.hid (hs11.of (show _ = Row 39 1 (.slice A2 hs2.length c2) hs2.length (hs2.map slOf) * (Pt gx 91 #[.int .i64 x0, .int .i64 x1, .int .i64 x2, .int .i64 x3] * (RoL [(A10, bb.length, bb)] * (RoL hs2 * (SpaceP s d (wcS 70 l (F2 ++ split bb)) * (Disk d D4 * Emp))))) by ac_rfl)); clear hs11)
                | (at_builtin; refine wpList_appS rfl (.tmp 79) (.tmp 81) 38 rfl 39 i0 _ 1 24 Try.underlying38 hi0.out hz0.out hz1.out hz2.out rfl (by decide) (.slice A2 hs2.length c2) hs2.length (hs2.map slOf) rfl w _ (by exact (HRw.out.alloc' _)) (some ⟨w11.heap.size, 0, none⟩) 1 1 [slOf (A10, bb.length, bb)] rfl (lit_rdv _ _ _) rfl (slOf_oneX _) (by unfold maxLen; omega) (by omega) ?_; intro A3 c3 w12 hs3; have HS12 := Lib.hid hs3; clear hs3)
                | (go_at_call 49; (with_reducible refine (num4_any _ _).mono ?_); rintro e wx ⟨rfl, rfl⟩))
              have HS13 : Hid (Sat w (Pt gx 91 #[.int .i64 x0, .int .i64 x1, .int .i64 x2, .int .i64 x3] * (Row 39 1 (.slice A3 (hs2 ++ [(A10, bb.length, bb)]).length c3) (hs2 ++ [(A10, bb.length, bb)]).length ((hs2 ++ [(A10, bb.length, bb)]).map slOf) * (RoL (hs2 ++ [(A10, bb.length, bb)]) * (SpaceP s d (wcS 70 l (F2 ++ split bb)) * (Disk d D4 * Emp))))) w12) := by
                unfold Hid
                rw [List.map_append, List.length_append, ← rol_app]
                exact HS12.out.of (by ac_rfl)
              have HT4 : Hid (txt (hs2 ++ [(A10, bb.length, bb)]) = txt hs2 ++ [bb]) := by unfold Hid; rw [txt_append]; rfl
              have HL4' : Hid ((hs2 ++ [(A10, bb.length, bb)]).length = hs2.length + 1) := by simp [Hid]
              clear HS12 HRw HAp
              have p2 := HS13.out.cell 2
              simp only [List.getElem?_toArray, List.getElem?_cons_zero, List.getElem?_cons_succ] at p2
              have HI5 := Lib.hid HIn4.out.sync
              have HSy : Hid (Calls Try.prog 20 #[.pointer (some ⟨s, 0, none⟩)] w12 fun e w' => e = .returned (.int .i64 0) ∧ Sat w (Pt gx 91 #[.int .i64 x0, .int .i64 x1, .int .i64 x2, .int .i64 x3] * (Row 39 1 (.slice A3 (hs2 ++ [(A10, bb.length, bb)]).length c3) (hs2 ++ [(A10, bb.length, bb)]).length ((hs2 ++ [(A10, bb.length, bb)]).map slOf) * (RoL (hs2 ++ [(A10, bb.length, bb)]) * (SpaceP s d (wcS 70 l (F2 ++ split bb)) * (Disk d D4.flush.1 * Emp))))) w') := (sync_sp (HS13.out.of (show _ = SpaceP s d (wcS 70 l (F2 ++ split bb)) * (Disk d D4 * (Pt gx 91 #[.int .i64 x0, .int .i64 x1, .int .i64 x2, .int .i64 x3] * (Row 39 1 (.slice A3 (hs2 ++ [(A10, bb.length, bb)]).length c3) (hs2 ++ [(A10, bb.length, bb)]).length ((hs2 ++ [(A10, bb.length, bb)]).map slOf) * (RoL (hs2 ++ [(A10, bb.length, bb)]) * Emp)))) by ac_rfl)) (by have := HIn4.out.cnt.pend; omega)).mono fun e w' ⟨h1, h2⟩ => ⟨by rw [h1, HI5.out.1], h2.of (by ac_rfl)⟩
              go_wp2_with (first
                | (go_at_call 20; (with_reducible refine HSy.out.mono ?_); rintro e w13 ⟨rfl, hs13⟩; have HS14 := Lib.hid hs13; clear hs13)
                | (go_at_call 49; (with_reducible refine (num4_any _ _).mono ?_); rintro e wx ⟨rfl, rfl⟩))
              · go_roundw
                · refine ⟨k + 1, hs2.length + 1, A3, c3, (hs2 ++ [(A10, bb.length, bb)]), _, D4.flush.1, by omega, by go_num, by rw [HL4'.out], by go_num, ?_, ?_, ?_, HS14.out⟩
                  · have h5 := HI5.out.2.1
                    have h6 : (txt hs2 ++ [bb]).length = hs2.length + 1 := by rw [← HT4.out]; unfold txt; rw [List.length_map, HL4'.out]
                    rw [h6] at h5
                    rw [HT4.out]; exact ⟨h5.good, h5.tel, h5.safe, h5.cnt.mono (by omega), h5.armed⟩
                  · rw [HI5.out.2.2, HL4.out]; exact HL3.out
                  · rw [HL4'.out]; have := HH3.out; omega
                · simp [intOf]; omega
              · go_roundw
                · refine ⟨k + 1, safe, A3, c3, (hs2 ++ [(A10, bb.length, bb)]), _, D4, by omega, by go_num, by rw [HL4'.out], rfl, ?_, ?_, ?_, HS13.out⟩
                  · rw [HT4.out]; exact ⟨HIn4.out.good, HIn4.out.tel, HIn4.out.safe, HIn4.out.cnt.mono (by omega), HIn4.out.armed⟩
                  · rw [HL4.out]; exact HL3.out
                  · rw [HL4'.out]; have := HH3.out; omega
                · simp [intOf]; omega
            · rw [e] at hap
              have HAp := Lib.hid hap
              have HOut4 := Lib.hid hOut4; have HL4 := Lib.hid hl4; have HL3 := Lib.hid HD.out.2.1; have HH3 := Lib.hid HD.out.2.2.1
              have HC4 := Lib.hid (hc4.mono (m := 2 + 1644 * i + 1644) (by omega))
              clear hap e HS10 HD hsg hsc hOut4 hl4 hc4 p1 p2
              go_wp2_with (first
                | (go_at_call 19; (with_reducible refine HAp.out.mono ?_); rintro e w11 ⟨rfl, hs11⟩; have HRw := Lib.hid (hs11.of (show _ = Row 39 1 (.slice A2 hs2.length c2) hs2.length (hs2.map slOf) * (Pt gx 91 #[.int .i64 x0, .int .i64 x1, .int .i64 x2, .int .i64 x3] * (RoL [(A10, bb.length, bb)] * (RoL hs2 * (SpaceP s d S4 * (Disk d D4 * Emp))))) by ac_rfl)); clear hs11)
                | (at_builtin; refine wpList_appS rfl (.tmp 79) (.tmp 81) 38 rfl 39 i0 _ 1 24 Try.underlying38 hi0.out hz0.out hz1.out hz2.out rfl (by decide) (.slice A2 hs2.length c2) hs2.length (hs2.map slOf) rfl w _ (by exact (HRw.out.alloc' _)) (some ⟨w11.heap.size, 0, none⟩) 1 1 [slOf (A10, bb.length, bb)] rfl (lit_rdv _ _ _) rfl (slOf_oneX _) (by unfold maxLen; omega) (by omega) ?_; intro A3 c3 w12 hs3; have HS12 := Lib.hid hs3; clear hs3)
                | (go_at_call 49; (with_reducible refine (num4_any _ _).mono ?_); rintro e wx ⟨rfl, rfl⟩))
              have HS13 : Hid (Sat w (Pt gx 91 #[.int .i64 x0, .int .i64 x1, .int .i64 x2, .int .i64 x3] * (Row 39 1 (.slice A3 (hs2 ++ [(A10, bb.length, bb)]).length c3) (hs2 ++ [(A10, bb.length, bb)]).length ((hs2 ++ [(A10, bb.length, bb)]).map slOf) * (RoL (hs2 ++ [(A10, bb.length, bb)]) * (SpaceP s d S4 * (Disk d D4 * Emp))))) w12) := by
                unfold Hid
                rw [List.map_append, List.length_append, ← rol_app]
                exact HS12.out.of (by ac_rfl)
              have HT4 : Hid (txt (hs2 ++ [(A10, bb.length, bb)]) = txt hs2 ++ [bb]) := by unfold Hid; rw [txt_append]; rfl
              have HL4' : Hid ((hs2 ++ [(A10, bb.length, bb)]).length = hs2.length + 1) := by simp [Hid]
              clear HS12 HRw HAp
              go_meet
              refine ⟨A3, c3, safe, (hs2 ++ [(A10, bb.length, bb)]), S4, D4, by rw [HL4'.out], rfl, ?_, HC4.out, by rw [HL4.out]; exact HL3.out, by rw [HL4'.out]; have := HH3.out; omega, HS13.out⟩
              rw [HT4.out]; exact HOut4.out
          · have hkl' : ¬ (k : Int) < 3 := by omega
            have HOut := Lib.hid (HD.out.1.wcOut (by omega))
            have HC := Lib.hid (HD.out.1.cnt.mono (m := 2 + 1644 * i + 1644) (by omega))
            go_wp2_with fail
            go_meet
            exact ⟨A2, c2, safe, hs2, _, D3, rfl, rfl, HOut.out, HC.out, HD.out.2.1, by have := HD.out.2.2.1; omega, HD.out.2.2.2⟩
      case rest =>
        obtain ⟨A2, c2, safe, hs2, S2, D3, rfl, rfl, HC⟩ := hcut

        have p3 := HC.out.2.2.2.2.cell 3
        simp only [List.getElem?_toArray, List.getElem?_cons_zero, List.getElem?_cons_succ] at p3
        by_cases hkc : i < ks.length
        · have hkc' : (i : Int) < ks.length := by omega
          obtain ⟨b2, o2, rfl, hcl⟩ := RdV.elem (f := slB) (k := 1) (fun _ => rfl) (by decide) (HK.out.2.2.1.new HC.out.2.2.2.2.chg) hkc
          have q1 := hcl 0 (by decide)
          have HKr' := HK.out.2.2.2.2 ks[i] (List.getElem_mem hkc)
          clear hcl
          generalize ks[i] = kp at *
          obtain ⟨Kp, kc, keep⟩ := kp
          simp only [slB, List.getElem?_cons_zero, Nat.mul_one, Nat.add_zero] at q1
          have HKr := Lib.hid HKr'.2.2.1
          have hkl4 := HKr'.2.2.2
          dsimp only at HKr hkl4
          clear HKr'
          go_upto_region 27 with fail
          have HRo := Lib.hid (Sat.arg (HC.out.2.2.2.2) HKr.out)
          obtain ⟨l', F', m, ho, ⟨sg, hg, hcr⟩, hm1, hm2, htel⟩ := HC.out.1 keep (x3 % 16) 100
          have hpe := HC.out.2.1.pend
          have HCE : Hid (Cnt (D3.crash keep (x3 % 16) 100) (2 + 1644 * i + 1644)) := Cnt.crash HC.out.2.1
          have HLE : Hid ((D3.crash keep (x3 % 16) 100).cells.length = 80) := by unfold Hid; rw [crash_len]; exact HC.out.2.2.1
          have HAE : Hid ((D3.crash keep (x3 % 16) 100).armed = 0) := crash_armed
          have HAg : Hid (Calls Try.prog 54 #[.pointer (some ⟨d, 0, none⟩), .slice Kp keep.length kc, .int .i64 (x3 % 16)] wc fun e w' => ∃ t, e = .returned (.pointer (some ⟨t, 0, none⟩)) ∧ Sat w (SpaceP t d (wcS 70 l' F') * (Disk d (D3.crash keep (x3 % 16) 100) * (Ro Kp (keep.map Value.bool) * (Pt gx 91 #[.int .i64 x0, .int .i64 x1, .int .i64 x2, .int .i64 x3] * (Row 39 1 (.slice A2 hs2.length c2) hs2.length (hs2.map slOf) * (RoL hs2 * (SpaceP s d S2 * Emp))))))) w') := again4_any Kp kc keep (x3 % 16) (HRo.out.of (show _ = Disk d D3 * (Ro Kp (keep.map Value.bool) * (Pt gx 91 #[.int .i64 x0, .int .i64 x1, .int .i64 x2, .int .i64 x3] * (Row 39 1 (.slice A2 hs2.length c2) hs2.length (hs2.map slOf) * (RoL hs2 * (SpaceP s d S2 * Emp))))) by ac_rfl)) (by omega) (by omega) (by have := HC.out.2.2.1; omega) (by have := HC.out.2.2.1; omega) ho
          have HHs2 : Hid (hs2.length ≤ 3 * i + 3) := HC.out.2.2.2.1
          have hhl2 : hs2.length ≤ 30 := by have := HHs2.out; omega
          generalize D3.crash keep (x3 % 16) 100 = E at *
          have HG := Lib.hid hg; have HCr := Lib.hid hcr; have HTel := Lib.hid htel
          clear hg hcr htel ho HC HRo hpe
          go_upto_region 31 with (go_at_call 54; (with_reducible refine HAg.out.mono ?_); rintro e w13 ⟨t, rfl, hs13⟩; have HS13 := Lib.hid hs13; clear hs13)
          have HRd : Hid (Calls Try.prog 23 #[.pointer (some ⟨t, 0, none⟩), .int .i64 1] w13 fun e w' => ∃ A14 c14 rs, e = .returned (.tuple #[.slice A14 m c14, .int .i64 0]) ∧ rs.length = m ∧ txt rs = (txt hs2).take m ∧ Sat w (Row 39 1 (.slice A14 m c14) m (rs.map slOf) * (OwnR rs * (SpaceP t d (wcS 70 l' F') * (Disk d E * (Ro Kp (keep.map Value.bool) * (Pt gx 91 #[.int .i64 x0, .int .i64 x1, .int .i64 x2, .int .i64 x3] * (Row 39 1 (.slice A2 hs2.length c2) hs2.length (hs2.map slOf) * (RoL hs2 * (SpaceP s d S2 * Emp))))))))) w') := (read_sp HG.out HS13.out (wc_find 70 l' F')).mono fun e w' ⟨u, rs, h1, h2, h3⟩ => by
            have h4 : txt rs = (txt hs2).take m := h2.trans HTel.out.whole
            have h5 : rs.length = m := by
              have := congrArg List.length h4
              unfold txt at this
              rw [List.length_map, List.length_take, List.length_map] at this
              have h6 : (txt hs2).length = hs2.length := by unfold txt; rw [List.length_map]
              omega
            rw [h5] at h3
            obtain ⟨A14, c14, rfl, _⟩ := h3.row_sl
            exact ⟨A14, c14, rs, h1, h5, h4, h3⟩
          go_upto_region 32 with (go_at_call 23; (with_reducible refine HRd.out.mono ?_); rintro e w14 ⟨A14, c14, rs, rfl, hrl, hrt, hs14⟩; have HS14 := Lib.hid hs14; have HRl := Lib.hid hrl; have HRt := Lib.hid hrt; clear hs14 hrl hrt)
          have hm2' : m ≤ hs2.length := by
            have h6 : (txt hs2).length = hs2.length := by unfold txt; rw [List.length_map]
            omega
          have HTk : Hid (txt (hs2.take m) = (txt hs2).take m) := by unfold Hid txt; rw [List.map_take]
          have HTl : Hid ((hs2.take m).length = m) := by unfold Hid; rw [List.length_take]; omega
          have HRow := Lib.hid (HS14.out.of (show _ = Row 39 1 (.slice A2 hs2.length c2) hs2.length (hs2.map slOf) * (RoL hs2 * (OwnR rs * (SpaceP t d (wcS 70 l' F') * (Disk d E * (Row 39 1 (.slice A14 m c14) m (rs.map slOf) * (Ro Kp (keep.map Value.bool) * (Pt gx 91 #[.int .i64 x0, .int .i64 x1, .int .i64 x2, .int .i64 x3] * (SpaceP s d S2 * Emp)))))))) by ac_rfl))
          have hcap : hs2.length ≤ c2 ∧ c2 ≤ maxLen := by
            obtain ⟨_, _, e, h1, h2⟩ := HRow.out.row_sl
            injection e with _ _ e
            subst e
            exact ⟨h1, h2⟩
          have HLi : Hid (Calls Try.prog 53 #[.slice A14 m c14, .slice A2 m c2] w14 fun e w' => e = .returned (.bool true) ∧ Chg No w14 w') := by
            have h8 := lists_same A14 A2 c14 c2 rs (hs2.take m) w14 ⟨HS14.out.row_rdvX, fun x hx => OwnR_rd HS14.out.up2 hx⟩ (RdL.take ⟨HRow.out.row_rdvX, fun x hx => HRow.out.up2.rol hx⟩ m) (by rw [HRt.out, HTk.out]) (by rw [HRl.out]; omega)
            rw [HRl.out, HTl.out] at h8
            exact h8
          have hmi : ¬ (m : Int) < safe := by omega
          have hmj : ¬ (hs2.length : Int) < m := by omega
          go_wp2_with (first
            | (go_at_call 53; (with_reducible refine HLi.out.mono ?_); rintro e w15 ⟨rfl, hk15⟩; have HK15 := Lib.hid hk15; clear hk15)
            | (go_at_call 49; (with_reducible refine (num4_any _ _).mono ?_); rintro e wx ⟨rfl, rfl⟩))
          go_roundw
          · have h9 := (HRow.out.new HK15.out).row_cut m hm2'
            rw [Nat.mul_one, ← List.map_take] at h9
            have h10 := (h9.up2.rol_sub (rs' := hs2.take m) (fun r hr => List.mem_of_mem_take hr)).up2
            have h11 : Sat w (Row 39 1 (.slice A2 (hs2.take m).length c2) (hs2.take m).length ((hs2.take m).map slOf) * (RoL (hs2.take m) * (SpaceP t d (wcS 70 l' F') * (Disk d E * Emp)))) w15 := by
              rw [HTl.out]
              refine Sat.right (A := OwnR rs * (Row 39 1 (.slice A14 m c14) m (rs.map slOf) * (Ro Kp (keep.map Value.bool) * (Pt gx 91 #[.int .i64 x0, .int .i64 x1, .int .i64 x2, .int .i64 x3] * SpaceP s d S2)))) (h10.of (by ac_rfl))
            refine ⟨i + 1, t, l', A2, c2, hs2.take m, F', E, by omega, by omega, rfl, by rw [HTl.out], by go_num, ⟨⟨_, HG.out, ?_⟩, ?_, ?_, HCE.out.mono (by omega), by rw [HAE.out]; omega⟩, HLE.out, by rw [HTl.out]; have := HHs2.out; omega, h11⟩
            · rw [HTk.out, HTl.out]; exact HCr.out
            · rw [HTk.out]; exact HTel.out
            · unfold txt; rw [List.length_map]; exact Nat.le_refl _
          · simp [intOf]; omega
        · have hkc' : ¬ (i : Int) < ks.length := by omega
          obtain ⟨Kp, hKp⟩ : ∃ K : Option Addr, K = none := ⟨_, rfl⟩
          obtain ⟨kc, hkc2⟩ : ∃ k : Nat, k = 0 := ⟨_, rfl⟩
          obtain ⟨keep, hke⟩ : ∃ k : List Bool, k = [] := ⟨_, rfl⟩
          have HKr : Hid (RdV w Kp (keep.map Value.bool)) := by rw [hke]; exact RdV.nil _ _
          have hkl4 : keep.length ≤ 140737488351232 := by rw [hke]; decide
          go_upto_region 27 with fail
          rw [show Value.slice none 0 0 = Value.slice Kp keep.length kc by rw [hKp, hkc2, hke]; rfl]
          clear hKp hkc2 hke
          have HRo := Lib.hid (Sat.arg (HC.out.2.2.2.2) HKr.out)
          obtain ⟨l', F', m, ho, ⟨sg, hg, hcr⟩, hm1, hm2, htel⟩ := HC.out.1 keep (x3 % 16) 100
          have hpe := HC.out.2.1.pend
          have HCE : Hid (Cnt (D3.crash keep (x3 % 16) 100) (2 + 1644 * i + 1644)) := Cnt.crash HC.out.2.1
          have HLE : Hid ((D3.crash keep (x3 % 16) 100).cells.length = 80) := by unfold Hid; rw [crash_len]; exact HC.out.2.2.1
          have HAE : Hid ((D3.crash keep (x3 % 16) 100).armed = 0) := crash_armed
          have HAg : Hid (Calls Try.prog 54 #[.pointer (some ⟨d, 0, none⟩), .slice Kp keep.length kc, .int .i64 (x3 % 16)] wc fun e w' => ∃ t, e = .returned (.pointer (some ⟨t, 0, none⟩)) ∧ Sat w (SpaceP t d (wcS 70 l' F') * (Disk d (D3.crash keep (x3 % 16) 100) * (Ro Kp (keep.map Value.bool) * (Pt gx 91 #[.int .i64 x0, .int .i64 x1, .int .i64 x2, .int .i64 x3] * (Row 39 1 (.slice A2 hs2.length c2) hs2.length (hs2.map slOf) * (RoL hs2 * (SpaceP s d S2 * Emp))))))) w') := again4_any Kp kc keep (x3 % 16) (HRo.out.of (show _ = Disk d D3 * (Ro Kp (keep.map Value.bool) * (Pt gx 91 #[.int .i64 x0, .int .i64 x1, .int .i64 x2, .int .i64 x3] * (Row 39 1 (.slice A2 hs2.length c2) hs2.length (hs2.map slOf) * (RoL hs2 * (SpaceP s d S2 * Emp))))) by ac_rfl)) (by omega) (by omega) (by have := HC.out.2.2.1; omega) (by have := HC.out.2.2.1; omega) ho
          have HHs2 : Hid (hs2.length ≤ 3 * i + 3) := HC.out.2.2.2.1
          have hhl2 : hs2.length ≤ 30 := by have := HHs2.out; omega
          generalize D3.crash keep (x3 % 16) 100 = E at *
          have HG := Lib.hid hg; have HCr := Lib.hid hcr; have HTel := Lib.hid htel
          clear hg hcr htel ho HC HRo hpe
          go_upto_region 31 with (go_at_call 54; (with_reducible refine HAg.out.mono ?_); rintro e w13 ⟨t, rfl, hs13⟩; have HS13 := Lib.hid hs13; clear hs13)
          have HRd : Hid (Calls Try.prog 23 #[.pointer (some ⟨t, 0, none⟩), .int .i64 1] w13 fun e w' => ∃ A14 c14 rs, e = .returned (.tuple #[.slice A14 m c14, .int .i64 0]) ∧ rs.length = m ∧ txt rs = (txt hs2).take m ∧ Sat w (Row 39 1 (.slice A14 m c14) m (rs.map slOf) * (OwnR rs * (SpaceP t d (wcS 70 l' F') * (Disk d E * (Ro Kp (keep.map Value.bool) * (Pt gx 91 #[.int .i64 x0, .int .i64 x1, .int .i64 x2, .int .i64 x3] * (Row 39 1 (.slice A2 hs2.length c2) hs2.length (hs2.map slOf) * (RoL hs2 * (SpaceP s d S2 * Emp))))))))) w') := (read_sp HG.out HS13.out (wc_find 70 l' F')).mono fun e w' ⟨u, rs, h1, h2, h3⟩ => by
            have h4 : txt rs = (txt hs2).take m := h2.trans HTel.out.whole
            have h5 : rs.length = m := by
              have := congrArg List.length h4
              unfold txt at this
              rw [List.length_map, List.length_take, List.length_map] at this
              have h6 : (txt hs2).length = hs2.length := by unfold txt; rw [List.length_map]
              omega
            rw [h5] at h3
            obtain ⟨A14, c14, rfl, _⟩ := h3.row_sl
            exact ⟨A14, c14, rs, h1, h5, h4, h3⟩
          go_upto_region 32 with (go_at_call 23; (with_reducible refine HRd.out.mono ?_); rintro e w14 ⟨A14, c14, rs, rfl, hrl, hrt, hs14⟩; have HS14 := Lib.hid hs14; have HRl := Lib.hid hrl; have HRt := Lib.hid hrt; clear hs14 hrl hrt)
          have hm2' : m ≤ hs2.length := by
            have h6 : (txt hs2).length = hs2.length := by unfold txt; rw [List.length_map]
            omega
          have HTk : Hid (txt (hs2.take m) = (txt hs2).take m) := by unfold Hid txt; rw [List.map_take]
          have HTl : Hid ((hs2.take m).length = m) := by unfold Hid; rw [List.length_take]; omega
          have HRow := Lib.hid (HS14.out.of (show _ = Row 39 1 (.slice A2 hs2.length c2) hs2.length (hs2.map slOf) * (RoL hs2 * (OwnR rs * (SpaceP t d (wcS 70 l' F') * (Disk d E * (Row 39 1 (.slice A14 m c14) m (rs.map slOf) * (Ro Kp (keep.map Value.bool) * (Pt gx 91 #[.int .i64 x0, .int .i64 x1, .int .i64 x2, .int .i64 x3] * (SpaceP s d S2 * Emp)))))))) by ac_rfl))
          have hcap : hs2.length ≤ c2 ∧ c2 ≤ maxLen := by
            obtain ⟨_, _, e, h1, h2⟩ := HRow.out.row_sl
            injection e with _ _ e
            subst e
            exact ⟨h1, h2⟩
          have HLi : Hid (Calls Try.prog 53 #[.slice A14 m c14, .slice A2 m c2] w14 fun e w' => e = .returned (.bool true) ∧ Chg No w14 w') := by
            have h8 := lists_same A14 A2 c14 c2 rs (hs2.take m) w14 ⟨HS14.out.row_rdvX, fun x hx => OwnR_rd HS14.out.up2 hx⟩ (RdL.take ⟨HRow.out.row_rdvX, fun x hx => HRow.out.up2.rol hx⟩ m) (by rw [HRt.out, HTk.out]) (by rw [HRl.out]; omega)
            rw [HRl.out, HTl.out] at h8
            exact h8
          have hmi : ¬ (m : Int) < safe := by omega
          have hmj : ¬ (hs2.length : Int) < m := by omega
          go_wp2_with (first
            | (go_at_call 53; (with_reducible refine HLi.out.mono ?_); rintro e w15 ⟨rfl, hk15⟩; have HK15 := Lib.hid hk15; clear hk15)
            | (go_at_call 49; (with_reducible refine (num4_any _ _).mono ?_); rintro e wx ⟨rfl, rfl⟩))
          go_roundw
          · have h9 := (HRow.out.new HK15.out).row_cut m hm2'
            rw [Nat.mul_one, ← List.map_take] at h9
            have h10 := (h9.up2.rol_sub (rs' := hs2.take m) (fun r hr => List.mem_of_mem_take hr)).up2
            have h11 : Sat w (Row 39 1 (.slice A2 (hs2.take m).length c2) (hs2.take m).length ((hs2.take m).map slOf) * (RoL (hs2.take m) * (SpaceP t d (wcS 70 l' F') * (Disk d E * Emp)))) w15 := by
              rw [HTl.out]
              refine Sat.right (A := OwnR rs * (Row 39 1 (.slice A14 m c14) m (rs.map slOf) * (Ro Kp (keep.map Value.bool) * (Pt gx 91 #[.int .i64 x0, .int .i64 x1, .int .i64 x2, .int .i64 x3] * SpaceP s d S2)))) (h10.of (by ac_rfl))
            refine ⟨i + 1, t, l', A2, c2, hs2.take m, F', E, by omega, by omega, rfl, by rw [HTl.out], by go_num, ⟨⟨_, HG.out, ?_⟩, ?_, ?_, HCE.out.mono (by omega), by rw [HAE.out]; omega⟩, HLE.out, by rw [HTl.out]; have := HHs2.out; omega, h11⟩
            · rw [HTk.out, HTl.out]; exact HCr.out
            · rw [HTk.out]; exact HTel.out
            · unfold txt; rw [List.length_map]; exact Nat.le_refl _
          · simp [intOf]; omega
    · have hlt' : ¬ ((i : Int) < ls.length ∧ (i : Int) < 8) := by omega
      have HSw := Lib.hid HD.out.2.2.2
      go_wp2_with fail
      all_goals
        go_ret
        exact ⟨rfl, HSw.out.chg⟩
end Go.Proofs.Ytjmapbhgjhlefaa
