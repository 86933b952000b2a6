/- TopLog: the walk. -/
import Derived.Deep.CutBlock
import Derived.Test.YtjmapbhgjhlefaaQ14
import Derived.Test.YtjmapbhgjhlefaaQ15
import Derived.Test.YtjmapbhgjhlefaaQWalCut
import Derived.Test.YtjmapbhgjhlefaaQWalLong
import Derived.Test.YtjmapbhgjhlefaaQOwnL2
import Derived.Test.YtjmapbhgjhlefaaQStrTwo
import Derived.Test.YtjmapbhgjhlefaaQRowCut
namespace Go.Proofs.Ytjmapbhgjhlefaa
open Go.RowKit
set_option linter.unusedVariables false
set_option maxRecDepth 100000

theorem numT_any (k : Int) (w : World) : Calls Try.prog 14 #[.int .i64 k] w fun e w' => e = .returned (.int .i64 k) ∧ w = w' := by
  go_enter Try.func14, Try.ntmps14
  go_wp2
  go_ret
  exact ⟨rfl, rfl⟩
theorem mk_any (n : Nat) (hn : n ≤ 1000000) : ∀ W : World, (Instr.makeSlice 39 (.int .i64 (n : Int)) (.int .i64 (n : Int))).run Try.prog W =
    .ok (.slice (some ⟨W.heap.size, 0, none⟩) n n) (W.alloc (.cells (madeCells #[.int .u8 0] n) 5)) := by
  intro W
  obtain ⟨i0, hi, hz0, hz1, hz2⟩ := info_parts info_u8
  have hr := run_make (P := Try.prog) W 39 5 i0 _ Try.underlying39 hi hz0 .i64 .i64 n n (by omega) (Int.le_refl _) (by rw [hz2]; omega) (by omega)
  have hc : (Value.int .u8 0).cells = #[.int .u8 0] := rfl
  simpa [hz1, hc] using hr
def tlB (i j : Nat) : UInt8 := UInt8.ofNat ((i + j) % 256)
def tl (i n : Nat) : List UInt8 := (List.range n).map (tlB i)
theorem tl_len (i n : Nat) : (tl i n).length = n := by simp [tl]
theorem bv_tlB (i j : Nat) : bv (tlB i j) = .int .u8 (((i : Int) + j) % 256) := by
  unfold bv tlB
  congr 1
  simp only [UInt8.toNat_ofNat', Nat.reducePow]
  omega
/-- The cells while they are written. -/
def TlAt (i n k : Nat) (cur : Array Value) : Prop := cur.size = n ∧ ∀ j, j < k → cur[j]? = some (bv (tlB i j))
theorem TlAt.full {i n : Nat} {cur : Array Value} (h : TlAt i n n cur) : cur = ((tl i n).map bv).toArray := by
  apply Array.ext_getElem?
  intro j
  by_cases hj : j < n
  · rw [h.2 j hj]
    simp [tl, hj]
  · rw [Array.getElem?_eq_none (by rw [h.1]; omega), Array.getElem?_eq_none (by simp [tl]; omega)]
set_option maxHeartbeats 8000000 in
theorem topLog_walk (A : Option Addr) (c : Nat) (ks : List Int) (kk : Int) (Kp : Option Addr) (kc : Nat) (keep : List Bool) (torn : Int) (w : World)
    (hp : ks.length ≤ c ∧ c ≤ maxLen ∧ RdV w A (ks.map fun n => .int .i64 n) ∧ ks.length ≤ 17592186043904 ∧ ∀ n ∈ ks, -9223372036854775808 ≤ n ∧ n ≤ 9223372036854775807)
    (hkk : -9223372036854775808 ≤ kk ∧ kk ≤ 9223372036854775807) (hkp : keep.length ≤ kc ∧ kc ≤ maxLen ∧ RdV w Kp (keep.map Value.bool) ∧ keep.length ≤ 140737488351232) (ht : -9223372036854775808 ≤ torn ∧ torn ≤ 9223372036854775807) :
    Calls Try.prog 3 #[.slice A ks.length c, .int .i64 kk, .slice Kp keep.length kc, .int .i64 torn] w (Asked true w) := by
  obtain ⟨i0, hi0', hz0', hz1', hz2'⟩ := info_parts info_sl
  have hi0 := Lib.hid hi0'; have hz0 := Lib.hid hz0'; have hz1 := Lib.hid hz1'; have hz2 := Lib.hid hz2'
  obtain ⟨D1, e1, hi1, hl1⟩ := wc_begin (N := 128) (bn := 100) (by omega) (by omega)
  obtain ⟨D0, hD0⟩ : ∃ D, D = beginD 128 := ⟨_, rfl⟩
  have hg0 : Good D0 ⟨1, 1, []⟩ (fun _ => 0) 1 := by rw [hD0]; exact begin_good (by omega) (by omega)
  have ha0 : D0.armed = 0 := by rw [hD0]; exact begin_armed
  have hc0 : Cnt D0 1 := by rw [hD0]; exact begin_cnt
  rw [← hD0] at e1
  have HNew : Hid (Calls Try.prog 13 #[.int .i64 128] w fun e w' => ∃ d, e = .returned (.tuple #[.pointer (some ⟨d, 0, none⟩), .int .i64 0]) ∧ Sat w (Disk d (Dk.new 128) * Emp) w') := (new_any (128 : Int) w w Emp (Sat.start w)).mono fun e w' h9 => by
    unfold NewD at h9
    rw [if_pos (by omega)] at h9
    exact h9
  have HFo : Hid (∀ W d, Sat w (Disk d (Dk.new 128) * Emp) W → Calls Try.prog 15 #[.pointer (some ⟨d, 0, none⟩)] W fun e w' => e = .returned (.int .i64 0) ∧ Sat w (Disk d D0 * Emp) w') := fun W d hW => by
    have h9 := format_any hW (by unfold Dk.new; simp) (by unfold Dk.new; simp) (by show 0 ≤ _; omega) (by show 0 ≤ _; omega) (by show 0 ≤ _; omega)
    rw [formatX_new (by omega), ← hD0] at h9
    exact h9
  have HOp : Hid (∀ W d, Sat w (Disk d D0 * Emp) W → Calls Try.prog 16 #[.pointer (some ⟨d, 0, none⟩)] W fun e w' => ∃ s, e = .returned (.tuple #[.pointer (some ⟨s, 0, none⟩), .int .i64 0]) ∧ Sat w (SpaceP s d ⟨1, 1, []⟩ * (Disk d D0 * Emp)) w') := fun W d hW => by
    refine (open_any hW (by rw [hD0, begin_len]; omega) (by rw [hD0, begin_len]; omega)).mono ?_
    rintro e w' ⟨p, h3, h4⟩
    rw [hD0, begin_open (by omega) (by omega)] at h3 h4
    obtain ⟨s, rfl⟩ := opt_some h4
    rw [← hD0] at h4
    exact ⟨s, h3, h4⟩
  have HG0 := Lib.hid hg0; have HC0 := Lib.hid hc0; have HE1 := Lib.hid e1; have HP := Lib.hid hp; have HKp := Lib.hid hkp
  have HI1 := Lib.hid hi1; have HL1 := Lib.hid hl1
  have HA0 : Hid (D0.armed ≤ 9223372036854775807) := by unfold Hid; omega
  have hkl4 := hkp.2.2.2
  clear hD0 hg0 ha0 hc0 e1 hi1 hl1 hi0' hz0' hz1' hz2' hp hkp
  go_enter Try.func3, Try.ntmps3
  go_upto_region 2 with (go_at_call 13; (with_reducible refine HNew.out.mono ?_); rintro e w2 ⟨d, rfl, hs⟩; have HS2 := Lib.hid hs; clear hs)
  have HFo2 := Lib.hid (HFo.out w2 d HS2.out)
  go_upto_region 4 with (first | (go_at_call 14; (with_reducible refine (numT_any _ _).mono ?_); rintro e wx ⟨rfl, rfl⟩) | (go_at_call 15; (with_reducible refine HFo2.out.mono ?_); rintro e w3 ⟨rfl, hs⟩; have HS3 := Lib.hid hs; clear hs))
  have HOp2 := Lib.hid (HOp.out w3 d HS3.out)
  go_upto_region 5 with (first | (go_at_call 16; (with_reducible refine HOp2.out.mono ?_); rintro e w4 ⟨s, rfl, hs⟩; have HS4 := Lib.hid hs; clear hs))
  clear HNew HFo HFo2 HOp HOp2 HS2 HS3
  go_upto_region 7 with (first
    | (go_at_call 17; have h8 := HS4.out.allocPt 35 #[.int .i64 1, .int .i64 0, .int .i64 100]; have h9 := sw_add w4.heap.size 1 1 _ [⟨1, 0, 100⟩] HG0.out (by omega) HC0.out (by omega) HA0.out h8 rfl rfl (by omega) (fun f hf => by rw [List.mem_singleton.1 hf]; exact ⟨by dsimp only; omega, by dsimp only; omega⟩) HE1.out; (with_reducible refine h9.mono ?_); rintro e w5 ⟨rfl, hs⟩; have HS5 := Lib.hid hs; clear hs h9 h8)
    | (go_at_call 14; (with_reducible refine (numT_any _ _).mono ?_); rintro e wx ⟨rfl, rfl⟩))
  clear HS4 HE1 HG0 HC0 HA0
  have hm0 : bits .and .i64 kk 63 = kk % 64 := and63 kk
  have HS5' : Hid (Sat w (SpaceP s d (wcS 100 1 []) * (Disk d D1 * Emp)) w5) := HS5.out
  clear HS5
  have HAr : Hid (Calls Try.prog 18 #[.pointer (some ⟨d, 0, none⟩), .int .i64 (1 + kk % 64)] w5 fun e w' => e = .returned (.tuple #[]) ∧ Sat w (SpaceP s d (wcS 100 1 []) * (Disk d { D1 with armed := (1 + kk % 64).toNat } * Emp)) w') := (arm_any d D1 (1 + kk % 64) w w5 _ (HS5'.out.of (show _ = Disk d D1 * (SpaceP s d (wcS 100 1 []) * Emp) by ac_rfl))).mono fun e w' ⟨h1, h2⟩ => ⟨h1, h2.of (by ac_rfl)⟩
  obtain ⟨D2, hD2⟩ : ∃ D2 : Dk, D2 = { D1 with armed := (1 + kk % 64).toNat } := ⟨_, rfl⟩
  have hIn := HI1.out.arm (n := (1 + kk % 64).toNat) (by omega)
  rw [← hD2] at HAr hIn
  have HIn := Lib.hid hIn
  have HLn2 : Hid (D2.cells.length = 128) := by unfold Hid; rw [hD2]; exact HL1.out
  clear hD2 hIn HL1 HI1
  go_upto_region 8 with (go_at_call 18; (with_reducible refine HAr.out.mono ?_); rintro e w10 ⟨rfl, hs10⟩; have HS10 := Lib.hid hs10; clear hs10)
  clear HAr HS5'
  go_upto_block 0 with fail
  go_cut [13, 14] (fun hv sv wx => ∃ (A2 : Option Addr) (c2 safe : Nat) (hs2 : Rows_) (S2 : Spc) (D3 : Dk), hv = .slice A2 hs2.length c2 ∧ sv = .int .i64 (safe : Int) ∧ Hid (WcOut 100 D3 (txt hs2) safe 2 ∧ Cnt D3 20000 ∧ D3.cells.length = 128 ∧ hs2.length ≤ 20 ∧ Sat w (Row 39 1 (.slice A2 hs2.length c2) hs2.length (hs2.map slOf) * (RoL hs2 * (SpaceP s d S2 * (Disk d D3 * Emp)))) wx))
  case first =>
    go_wp2_with fail
    go_loopw [13, 14, 15] (fun hv sv iv wr => ∃ (i safe : Nat) (A2 : Option Addr) (c2 : Nat) (hs2 : Rows_) (F2 : List (List UInt8)) (D3 : Dk), i ≤ ks.length ∧ i ≤ 20 ∧ iv = .int .i64 (i : Int) ∧ hv = .slice A2 hs2.length c2 ∧ sv = .int .i64 (safe : Int) ∧ Hid (WcIn 100 1 D3 F2 (txt hs2) safe 2 (2 + 548 * i) ∧ D3.cells.length = 128 ∧ hs2.length ≤ i ∧ Sat w (Row 39 1 (.slice A2 hs2.length c2) hs2.length (hs2.map slOf) * (RoL hs2 * (SpaceP s d (wcS 100 1 F2) * (Disk d D3 * Emp)))) wr)) (fun _ _ iv _ => 20 - (intOf iv).toNat)
    case atStart =>
      have h1 : Sat w (Row 39 1 (.slice none 0 0) 0 [] * (RoL [] * (SpaceP s d (wcS 100 1 []) * (Disk d D2 * Emp)))) w10 := (HS10.out.rolNil [] (by simp)).row_nil _ 1
      exact ⟨0, 0, none, 0, [], [], D2, by omega, by omega, rfl, rfl, rfl, HIn.out, HLn2.out, by simp, h1⟩
    case round =>
      obtain ⟨i, safe, A2, c2, hs2, F2, D3, hi, hi20, rfl, rfl, rfl, HD⟩ := hrel
      by_cases hlt : i < ks.length ∧ i < 20
      · have hk2 : (i : Int) < ks.length := by omega
        have hk3 : (i : Int) < 20 := by omega
        have HSw := Lib.hid HD.out.2.2.2
        obtain ⟨b, o, rfl, hc⟩ := (HP.out.2.2.1.new HSw.out.chg) (by intro e; have := congrArg List.length e; simp at this; rw [this] at hlt; simp at hlt)
        have q0 : wr.cell? ⟨b, o + i, none⟩ = some (.int .i64 ks[i]) := by
          have := hc i (by simpa using hlt.1)
          rw [this]; simp
        clear hc
        generalize ks[i] = x at *
        have hx1023 : bits .and .i64 x 1023 = x % 1024 := and1023 x
        obtain ⟨n, hn⟩ : ∃ n : Nat, (n : Int) = x % 1024 := ⟨(x % 1024).toNat, by omega⟩
        have hn2 : n ≤ 1023 := by omega
        rw [← hn] at hx1023
        clear hn
        have hmk := mk_any n (by omega)
        go_upto_region 14 with fail
        have h9 := HSw.out.allocPt 5 (madeCells #[.int .u8 0] n)
        generalize hW : World.alloc wr _ = w9
        have HS9 : Hid (Sat w (Pt wr.heap.size 5 (madeCells #[.int .u8 0] n) * (Row 39 1 (.slice A2 hs2.length c2) hs2.length (hs2.map slOf) * (RoL hs2 * (SpaceP s d (wcS 100 1 F2) * (Disk d D3 * Emp))))) w9) := by unfold Hid; rw [← hW]; exact h9
        clear h9 hW hmk q0
        revert HS9
        generalize wr.heap.size = g
        intro HS9
        have HIn3 := Lib.hid HD.out.1; have HL3 := Lib.hid HD.out.2.1; have HH3 := Lib.hid HD.out.2.2.1
        clear HSw HD
        go_wp2_with fail
        go_loopw [17] (fun jv wr2 => ∃ (j : Nat) (cur : Array Value), j ≤ n ∧ jv = .int .i64 (j : Int) ∧ Hid (TlAt i n j cur ∧ Sat w (Pt g 5 cur * (Row 39 1 (.slice A2 hs2.length c2) hs2.length (hs2.map slOf) * (RoL hs2 * (SpaceP s d (wcS 100 1 F2) * (Disk d D3 * Emp))))) wr2)) (fun jv _ => n - (intOf jv).toNat)
        case atStart => exact ⟨0, _, by omega, rfl, ⟨by simp [madeCells], fun j hj => absurd hj (by omega)⟩, HS9.out⟩
        case round =>
          obtain ⟨j, cur, hj, rfl, HJ⟩ := hrel
          by_cases hjn : j < n
          · have hjn2 : (j : Int) < n := by omega
            have hsz := HJ.out.1.1
            obtain ⟨y, hy⟩ : ∃ y, cur[j]? = some y := ⟨_, Array.getElem?_eq_getElem (by omega)⟩
            have hc : wr.cell? ⟨g, j, none⟩ = some y := (HJ.out.2.cell j).trans hy
            have hfz := HJ.out.2.frozen j
            clear hsz hy
            go_wp2_with fail
            go_roundw
            · refine ⟨j + 1, _, by omega, by go_num, ⟨by rw [Array.size_setIfInBounds]; exact HJ.out.1.1, fun q hq => ?_⟩, HJ.out.2.set j _⟩
              rw [Array.getElem?_setIfInBounds]
              by_cases e : j = q
              · subst e
                rw [if_pos rfl, if_pos (by have := HJ.out.1.1; omega), bv_tlB]
              · rw [if_neg e]
                exact HJ.out.1.2 q (by omega)
            · simp [intOf]; omega
          · obtain rfl : j = n := by omega
            obtain ⟨bb, hbb⟩ : ∃ bb, bb = tl i j := ⟨_, rfl⟩
            have HBl : Hid (bb.length = j) := by unfold Hid; rw [hbb]; exact tl_len _ _
            have hS := HJ.out.2
            rw [HJ.out.1.full, ← hbb] at hS
            have hS2 := hS.give (o := 0) (xs := bb.map bv) (fun q hq => by simp at hq; simp [hq])
            obtain ⟨A10, hA10⟩ : ∃ A : Option Addr, A = some ⟨g, 0, none⟩ := ⟨_, rfl⟩
            rw [← hA10] at hS2
            have HS10 := Lib.hid (hS2.of (show _ = RoL [(A10, j, bb)] * (Row 39 1 (.slice A2 hs2.length c2) hs2.length (hs2.map slOf) * (RoL hs2 * (SpaceP s d (wcS 100 1 F2) * (Disk d D3 * Emp)))) by rw [← rb_rol]; rfl))
            rw [← HBl.out] at HS10
            clear hS hS2 hbb HJ
            rw [show Value.slice (some ⟨g, 0, none⟩) j j = Value.slice A10 bb.length bb.length by rw [hA10, HBl.out]]
            clear hA10
            have hjn2 : ¬ (j : Int) < bb.length := by rw [HBl.out]; omega
            have HRw := Lib.hid (HS10.out.of (show _ = Row 39 1 (.slice A2 hs2.length c2) hs2.length (hs2.map slOf) * (RoL [(A10, bb.length, bb)] * (RoL hs2 * (SpaceP s d (wcS 100 1 F2) * (Disk d D3 * Emp)))) by ac_rfl))
            have hhl2 : hs2.length ≤ 20 := by have := HH3.out; omega
            go_upto_region 19 with (at_builtin; refine wpList_appS rfl (.tmp 93) (.tmp 95) 38 rfl 39 i0 _ 1 24 Try.underlying38 hi0.out hz0.out hz1.out hz2.out rfl (by decide) (.slice A2 hs2.length c2) hs2.length (hs2.map slOf) rfl w _ (by exact (HRw.out.alloc' _)) (some ⟨wr.heap.size, 0, none⟩) 1 1 [slOf (A10, bb.length, bb)] rfl (lit_rdv _ _ _) rfl (slOf_oneX _) (by unfold maxLen; omega) (by omega) ?_; intro A3 c3 w12 hs3; have HS12 := Lib.hid hs3; clear hs3)
            obtain ⟨hn, hhn⟩ : ∃ hn : Rows_, hn = hs2 ++ [(A10, bb.length, bb)] := ⟨_, rfl⟩
            have HNl : Hid (hn.length = hs2.length + 1) := by unfold Hid; rw [hhn, List.length_append]; rfl
            have HNt : Hid (txt hn = txt hs2 ++ [bb]) := by unfold Hid; rw [hhn, txt_append]; rfl
            have HNk : Hid (hn.take hs2.length = hs2) := by unfold Hid; rw [hhn, List.take_left]
            have HNm : Hid ((A10, bb.length, bb) ∈ hn) := by unfold Hid; rw [hhn]; simp
            have HS13 : Hid (Sat w (Row 39 1 (.slice A3 hn.length c3) hn.length (hn.map slOf) * (RoL hn * (SpaceP s d (wcS 100 1 F2) * (Disk d D3 * Emp)))) w12) := by
              unfold Hid
              rw [hhn, List.map_append, List.length_append, ← rol_app]
              exact HS12.out.of (by ac_rfl)
            clear hhn HS12 HRw HS10
            obtain ⟨sf, hsg, hsc⟩ := HIn3.out.good
            have hap := wapp_sp (b := bb) 1 A10 bb.length hsg HIn3.out.cnt (by omega) (by have := HIn3.out.armed; omega) (HS13.out.of (show _ = SpaceP s d (wcS 100 1 F2) * (Disk d D3 * (Row 39 1 (.slice A3 hn.length c3) hn.length (hn.map slOf) * (RoL hn * Emp))) by ac_rfl)) (fun W hW => hW.up2.rol HNm.out) (Nat.le_refl _) (by have := HBl.out; omega)
            rcases HIn3.out.put (b := bb) (by omega) (by have := HBl.out; omega) with e | ⟨D4, e, hIn4, hl4⟩ | ⟨S4, D4, e, hOut4, hc4, hl4⟩
            · rw [e] at hap
              have HAp := Lib.hid hap
              have HOut := Lib.hid (HIn3.out.wcOut (by omega))
              have HC := Lib.hid (HIn3.out.cnt.mono (m := 20000) (by omega))
              have hcap : hs2.length + 1 ≤ c3 := by
                obtain ⟨_, _, e2, h1, _⟩ := HS13.out.row_sl
                injection e2 with _ _ e2
                subst e2
                rw [HNl.out] at h1
                exact h1
              have hcap2 : (hs2.length : Int) ≤ c3 := by omega
              clear hap e HS13 hsg hsc
              go_wp2_with (first
                | (go_at_call 19; (with_reducible refine HAp.out.mono ?_); rintro e w13 ⟨rfl, hs13⟩; have HS14 := Lib.hid hs13; clear hs13)
                | (go_at_call 14; (with_reducible refine (numT_any _ _).mono ?_); rintro e wx ⟨rfl, rfl⟩))
              go_meet
              have h9 := (HS14.out.up3).row_cut hs2.length (by rw [HNl.out]; omega)
              rw [Nat.mul_one, ← List.map_take, HNk.out] at h9
              have h10 : Sat w (Row 39 1 (.slice A3 hs2.length c3) hs2.length (hs2.map slOf) * (RoL hs2 * (SpaceP s d (wcS 100 1 F2) * (Disk d D3 * Emp)))) w13 := (h9.up4.rol_sub (rs' := hs2) (fun r hr => by rw [← HNk.out] at hr; exact List.mem_of_mem_take hr)).of (by ac_rfl)
              exact ⟨A3, c3, safe, hs2, _, D3, by go_num, rfl, HOut.out, HC.out, HL3.out, hhl2, h10⟩
            · rw [e] at hap
              have HAp := Lib.hid hap
              have HIn4 := Lib.hid hIn4; have HL4 := Lib.hid hl4
              clear hap e HS13 hsg hsc hIn4 hl4
              go_upto_region 23 with (first
                | (go_at_call 19; (with_reducible refine HAp.out.mono ?_); rintro e w13 ⟨rfl, hs13⟩; have HS14 := Lib.hid hs13; clear hs13)
                | (go_at_call 14; (with_reducible refine (numT_any _ _).mono ?_); rintro e wx ⟨rfl, rfl⟩))
              have HI5 := Lib.hid HIn4.out.sync
              have HSy : Hid (Calls Try.prog 20 #[.pointer (some ⟨s, 0, none⟩)] w13 fun e w' => e = .returned (.int .i64 0) ∧ Sat w (SpaceP s d (wcS 100 1 (F2 ++ split bb)) * (Disk d D4.flush.1 * (Row 39 1 (.slice A3 hn.length c3) hn.length (hn.map slOf) * (RoL hn * Emp)))) w') := (sync_sp HS14.out (by have := HIn4.out.cnt.pend; omega)).mono fun e w' ⟨h1, h2⟩ => ⟨by rw [h1, HI5.out.1], h2⟩
              by_cases hm : i % 3 = 2
              · have hm2 : Int.tmod (i : Int) 3 = 2 := by rw [Int.tmod_eq_emod_of_nonneg (by omega)]; omega
                go_wp2_with (first
                  | (go_at_call 20; (with_reducible refine HSy.out.mono ?_); rintro e w14 ⟨rfl, hs13⟩; have HS15 := Lib.hid hs13; clear hs13)
                  | (go_at_call 14; (with_reducible refine (numT_any _ _).mono ?_); rintro e wx ⟨rfl, rfl⟩))
                go_roundw
                · refine ⟨i + 1, hn.length, A3, c3, hn, _, D4.flush.1, by omega, by omega, by go_num, by rw [HNl.out], by rw [HNl.out]; go_num, ?_, ?_, ?_, HS15.out.of (by ac_rfl)⟩
                  · have h5 := HI5.out.2.1
                    have h6 : (txt hs2 ++ [bb]).length = hn.length := by rw [← HNt.out]; unfold txt; rw [List.length_map]
                    rw [h6] at h5
                    rw [HNt.out]; exact ⟨h5.good, h5.tel, h5.safe, h5.cnt.mono (by omega), h5.armed⟩
                  · rw [HI5.out.2.2, HL4.out]; exact HL3.out
                  · rw [HNl.out]; have := HH3.out; omega
                · simp [intOf]; omega
              · have hm2 : ¬ Int.tmod (i : Int) 3 = 2 := by rw [Int.tmod_eq_emod_of_nonneg (by omega)]; omega
                go_wp2_with fail
                go_roundw
                · refine ⟨i + 1, safe, A3, c3, hn, _, D4, by omega, by omega, by go_num, by rw [HNl.out], rfl, ?_, ?_, ?_, HS14.out.of (by ac_rfl)⟩
                  · rw [HNt.out]; exact ⟨HIn4.out.good, HIn4.out.tel, HIn4.out.safe, HIn4.out.cnt.mono (by omega), HIn4.out.armed⟩
                  · rw [HL4.out]; exact HL3.out
                  · rw [HNl.out]; have := HH3.out; omega
                · simp [intOf]; omega
            · rw [e] at hap
              have HAp := Lib.hid hap
              have HOut4 := Lib.hid hOut4; have HL4 := Lib.hid hl4
              have HC4 := Lib.hid (hc4.mono (m := 20000) (by omega))
              clear hap e HS13 hsg hsc hOut4 hl4 hc4
              go_wp2_with (first
                | (go_at_call 19; (with_reducible refine HAp.out.mono ?_); rintro e w13 ⟨rfl, hs13⟩; have HS14 := Lib.hid hs13; clear hs13)
                | (go_at_call 14; (with_reducible refine (numT_any _ _).mono ?_); rintro e wx ⟨rfl, rfl⟩))
              go_meet
              refine ⟨A3, c3, safe, hn, S4, D4, by rw [HNl.out], rfl, ?_, HC4.out, by rw [HL4.out]; exact HL3.out, by rw [HNl.out]; have := HH3.out; omega, HS14.out.of (by ac_rfl)⟩
              rw [HNt.out]; exact HOut4.out
      · have hlt' : ¬ ((i : Int) < ks.length ∧ (i : Int) < 20) := by omega
        have HOut := Lib.hid (HD.out.1.wcOut (by omega))
        have HC := Lib.hid (HD.out.1.cnt.mono (m := 20000) (by omega))
        have HSw := Lib.hid HD.out
        clear HD
        go_wp2_with fail
        all_goals
          go_meet
          exact ⟨A2, c2, safe, hs2, _, D3, rfl, rfl, HOut.out, HC.out, HSw.out.2.1, by have := HSw.out.2.2.1; omega, HSw.out.2.2.2⟩
  case rest =>
    obtain ⟨A2, c2, safe, hs2, S2, D3, rfl, rfl, HC⟩ := hcut
    have HRo := Lib.hid (Sat.arg (HC.out.2.2.2.2) HKp.out.2.2.1)
    obtain ⟨l', F', m, ho, ⟨sg, hg, hcr⟩, hm1, hm2, htel⟩ := HC.out.1 keep torn 9
    have HLE : Hid ((D3.crash keep torn 9).cells.length = 128) := by unfold Hid; rw [crash_len]; exact HC.out.2.2.1
    have hpe := HC.out.2.1.pend
    have HCu := Lib.hid (cut_any d D3 w wc _ (HRo.out.of (show _ = Disk d D3 * (Ro Kp (keep.map Value.bool) * (Row 39 1 (.slice A2 hs2.length c2) hs2.length (hs2.map slOf) * (RoL hs2 * (SpaceP s d S2 * Emp)))) by ac_rfl)))
    have HOn : Hid (∀ W, Sat w (Disk d { D3 with off := true } * (Ro Kp (keep.map Value.bool) * (Row 39 1 (.slice A2 hs2.length c2) hs2.length (hs2.map slOf) * (RoL hs2 * (SpaceP s d S2 * Emp))))) W → Calls Try.prog 22 #[.pointer (some ⟨d, 0, none⟩), .slice Kp keep.length kc, .int .i64 torn, .int .i64 9] W fun e w' => e = .returned (.tuple #[]) ∧ Sat w (Disk d (D3.crash keep torn 9) * (Ro Kp (keep.map Value.bool) * (Row 39 1 (.slice A2 hs2.length c2) hs2.length (hs2.map slOf) * (RoL hs2 * (SpaceP s d S2 * Emp))))) w') := fun W hW => on_any d { D3 with off := true } Kp kc keep torn 9 w W _ hW (by show D3.pend.length ≤ _; omega) (by omega)
    generalize hE : D3.crash keep torn 9 = E at *
    have HHs2 := Lib.hid HC.out.2.2.2.1
    have HOp : Hid (∀ W, Sat w (Disk d E * (Ro Kp (keep.map Value.bool) * (Row 39 1 (.slice A2 hs2.length c2) hs2.length (hs2.map slOf) * (RoL hs2 * (SpaceP s d S2 * Emp))))) W → Calls Try.prog 16 #[.pointer (some ⟨d, 0, none⟩)] W fun e w' => ∃ t, e = .returned (.tuple #[.pointer (some ⟨t, 0, none⟩), .int .i64 0]) ∧ Sat w (SpaceP t d (wcS 100 l' F') * (Disk d E * (Ro Kp (keep.map Value.bool) * (Row 39 1 (.slice A2 hs2.length c2) hs2.length (hs2.map slOf) * (RoL hs2 * (SpaceP s d S2 * Emp)))))) w') := fun W hW => by
      refine (open_any hW (by rw [HLE.out]; omega) (by rw [HLE.out]; omega)).mono ?_
      rintro e w' ⟨p, h1, h2⟩
      rw [ho] at h1 h2
      obtain ⟨t, rfl⟩ := opt_some h2
      exact ⟨t, h1, h2⟩
    have HG := Lib.hid hg; have HTel := Lib.hid htel
    clear hg hcr htel ho HC HRo hpe hE
    go_upto_region 29 with (first
      | (go_at_call 21; (with_reducible refine HCu.out.mono ?_); rintro e w1 ⟨rfl, hs⟩; have HS1 := Lib.hid hs; clear hs)
      | (go_at_call 22; (with_reducible refine (HOn.out _ HS1.out).mono ?_); rintro e w2 ⟨rfl, hs⟩; have HS2 := Lib.hid hs; clear hs)
      | (go_at_call 16; (with_reducible refine (HOp.out _ HS2.out).mono ?_); rintro e w3 ⟨t, rfl, hs⟩; have HS3 := Lib.hid hs; clear hs))
    have HRd : Hid (Calls Try.prog 23 #[.pointer (some ⟨t, 0, none⟩), .int .i64 1] w3 fun e w' => ∃ A14 c14 rs, e = .returned (.tuple #[.slice A14 m c14, .int .i64 0]) ∧ rs.length = m ∧ txt rs = (txt hs2).take m ∧ Sat w (Row 39 1 (.slice A14 m c14) m (rs.map slOf) * (OwnR rs * (SpaceP t d (wcS 100 l' F') * (Disk d E * (Ro Kp (keep.map Value.bool) * (Row 39 1 (.slice A2 hs2.length c2) hs2.length (hs2.map slOf) * (RoL hs2 * (SpaceP s d S2 * Emp)))))))) w') := (read_sp HG.out HS3.out (wc_find 100 l' F')).mono fun e w' ⟨u, rs, h1, h2, h3⟩ => by
      have h4 : txt rs = (txt hs2).take m := h2.trans HTel.out.whole
      have h5 : rs.length = m := by
        have := congrArg List.length h4
        unfold txt at this
        rw [List.length_map, List.length_take, List.length_map] at this
        have h6 : (txt hs2).length = hs2.length := by unfold txt; rw [List.length_map]
        omega
      rw [h5] at h3
      obtain ⟨A14, c14, rfl, _⟩ := h3.row_sl
      exact ⟨A14, c14, rs, h1, h5, h4, h3⟩
    have hm2' : m ≤ hs2.length := by
      have h6 : (txt hs2).length = hs2.length := by unfold txt; rw [List.length_map]
      omega
    have hmi : ¬ (m : Int) < safe := by omega
    have hmj : ¬ (hs2.length : Int) < m := by omega
    go_upto_region 34 with (first
      | (go_at_call 23; (with_reducible refine HRd.out.mono ?_); rintro e w14 ⟨A14, c14, rs, rfl, hrl, hrt, hs14⟩; have HS14 := Lib.hid hs14; have HRl := Lib.hid hrl; have HRt := Lib.hid hrt; clear hs14 hrl hrt)
      | (go_at_call 14; (with_reducible refine (numT_any _ _).mono ?_); rintro e wx ⟨rfl, rfl⟩))
    have HR1 : Hid (RdL w14 A14 rs) := ⟨HS14.out.row_rdvX, fun x hx => OwnR_rd HS14.out.up2 hx⟩
    have HR2 : Hid (RdL w14 A2 hs2) := ⟨(HS14.out.of (show _ = Row 39 1 (.slice A2 hs2.length c2) hs2.length (hs2.map slOf) * (RoL hs2 * (OwnR rs * (SpaceP t d (wcS 100 l' F') * (Disk d E * (Row 39 1 (.slice A14 m c14) m (rs.map slOf) * (Ro Kp (keep.map Value.bool) * (SpaceP s d S2 * Emp))))))) by ac_rfl)).row_rdvX, fun x hx => (HS14.out.of (show _ = RoL hs2 * (OwnR rs * (SpaceP t d (wcS 100 l' F') * (Disk d E * (Row 39 1 (.slice A14 m c14) m (rs.map slOf) * (Ro Kp (keep.map Value.bool) * (SpaceP s d S2 * (Row 39 1 (.slice A2 hs2.length c2) hs2.length (hs2.map slOf) * Emp))))))) by ac_rfl)).rol hx⟩
    have HK := Lib.hid HS14.out.chg
    have hhl2 := HHs2.out
    clear HS14 HS1 HS2 HS3 HCu HOn HOp HRd
    go_wp2_with fail
    go_loopw [21] (fun iv wr => ∃ i n : Nat, i ≤ m ∧ iv = .int .i64 (i : Int) ∧ wr = w14.drewN n) (fun iv _ => m - (intOf iv).toNat)
    case atStart => exact ⟨0, 0, by omega, rfl, rfl⟩
    case round =>
      obtain ⟨i, n, hi, rfl, rfl⟩ := hrel
      by_cases hlt : i < m
      · have hlt1 : i < rs.length := by have := HRl.out; omega
        have hlt2 : i < hs2.length := by omega
        have hli : (i : Int) < m := by omega
        have hli2 : (i : Int) < hs2.length := by omega
        obtain ⟨⟨b, o, rfl, hc⟩, hx⟩ := HR1.out.get hlt1
        obtain ⟨⟨b', o', rfl, hc'⟩, hx'⟩ := HR2.out.get hlt2
        have hexy : rs[i].2.2 = hs2[i].2.2 := by
          have h8 := congrArg (fun l => l[i]?) HRt.out
          simp only [txt, List.getElem?_take, if_pos hlt, List.getElem?_map, List.getElem?_eq_getElem hlt1, List.getElem?_eq_getElem hlt2, Option.map_some, Option.some.injEq] at h8
          exact h8
        obtain ⟨SA, SB, B, e1, e2, e3, e4⟩ := str_two rs[i].2.2 hs2[i].2.2
        have s1 := fun n => str_any (hx.drewN n) rs[i].2.1
        have s2 := fun n => str_any (hx'.drewN n) hs2[i].2.1
        simp only [← e1] at s1
        simp only [← e2] at s2
        rw [decide_eq_true hexy] at e4
        rw [e4] at e3
        clear e1 e2 e4 hexy hx hx'
        generalize rs[i] = x at *
        generalize hs2[i] = y at *
        go_wp2_with fail
        go_quiet (fail)
        go_wp2_with fail
        go_roundw
        · exact ⟨i + 1, _, by omega, by go_num, rfl⟩
        · simp [intOf]; omega
      · have hli : ¬ (i : Int) < m := by omega
        go_wp2_with fail
        go_ret
        exact ⟨rfl, HK.out.drewN _⟩
end Go.Proofs.Ytjmapbhgjhlefaa
