/- SpaceEnds: the walk. -/
import Derived.Test.YtjmapbhgjhlefaaQ14
namespace Go.Proofs.Ytjmapbhgjhlefaa
open Go.RowKit
set_option linter.unusedVariables false
set_option maxRecDepth 100000

def ndF (i : Nat) : Fl := ⟨100 + i, 2 + i, 1, 2, 1, []⟩
def ndA (i : Nat) : Fi := ⟨((100 + i : Nat) : Int), 0, 1⟩
def ndS1 : Spc := ⟨0, 2, (List.range 24).map ndF⟩
def ndS2 : Spc := ⟨1, 3, ⟨1, 26, 14, 3, 1, []⟩ :: (List.range 23).map fun i => ndF (i + 1)⟩
def ndG : Fl := ⟨102, 4, 1, 2, 1, []⟩
theorem nd_may25 : (Spc.mk 1 1 []).may ((List.range 25).map ndA) [] = true := by decide +kernel
theorem nd_may24 : (Spc.mk 1 1 []).may ((List.range 24).map ndA) [] = true := by decide +kernel
theorem nd_add24 : addX 40 2 ((List.range 24).map ndA) [] [] = some ((List.range 24).map ndF) := by kernel_rfl
theorem nd_sort24 : sortN ((List.range 24).map ndF) = (List.range 24).map ndF := by kernel_rfl
theorem nd_may1 : ndS1.may [⟨1, 0, 1⟩] [] = true := by decide +kernel
theorem nd_may2 : ndS1.may [⟨1, 0, 14⟩] [100] = true := by decide +kernel
theorem nd_add2 : addX 40 3 [⟨1, 0, 14⟩] ndS1.lie (ndS1.files.filter fun f => !([100] : List Int).contains (f.num : Int)) = some (((List.range 23).map fun i => ndF (i + 1)) ++ [⟨1, 26, 14, 3, 1, []⟩]) := by kernel_rfl
theorem nd_sort2 : sortN (((List.range 23).map fun i => ndF (i + 1)) ++ [⟨1, 26, 14, 3, 1, []⟩]) = ndS2.files := by kernel_rfl
theorem nd_no1 : ndS2.may [⟨1, 0, 15⟩] [101] = false := by decide +kernel
theorem nd_no2 : ndS2.may [⟨2147483648, 0, 1⟩] [101] = false := by decide +kernel
theorem nd_no3 : ndS2.may [⟨0, 0, 1⟩] [101] = false := by decide +kernel
theorem nd_no4 : ndS2.may [] [101, 101] = false := by decide +kernel
theorem nd_find : ndS2.find 102 = some ndG := by kernel_rfl
def ndP (n : Nat) : List UInt8 := List.replicate n 0
def ndS3 (p : List UInt8) : Spc := ndS2.grow 102 p
theorem nd_find3 (p : List UInt8) : (ndS3 p).find 102 = some { ndG with frames := [p] } := by kernel_rfl
theorem nd_find4 (p : List UInt8) : (ndS3 p).find 103 = some (ndF 3) := by kernel_rfl
theorem nd_find5 (p : List UInt8) : (ndS3 p).find 999 = none := by kernel_rfl
section
variable {w0 w : World} {F : SP}
theorem Sat.madeX {b n : Nat} (h : Sat w0 F w) (hb : b = w.heap.size) (hn : n ≤ 1000000) : Sat w0 (Rb (some ⟨b, 0, none⟩) (List.replicate n (0 : UInt8)) * F) (w.alloc (.cells (noughts n) 5)) := by
  have h1 := bytes_row (h.allocAt 5 (noughts n) hb) (by unfold maxLen; omega)
  rw [List.length_replicate] at h1
  exact h1.row_rbX
theorem rdv_pre {A : Option Addr} {xs ys : List Value} (h : RdV w A (xs ++ ys)) : RdV w A xs := by
  have h2 := h.take xs.length
  rwa [List.take_left] at h2
theorem openX_off {D : Dk} (h : D.off = true) : openX D = (none, 21) := by
  have h2 : (readX D).2 = 21 := by unfold readX; rw [if_pos h]
  unfold openX
  rw [if_pos h2]
theorem formatX_off {D : Dk} (h : D.off = true) : formatX D = (D, 21) := by
  have h2 : (readX D).2 = 21 := by unfold readX; rw [if_pos h]
  unfold formatX
  rw [if_pos h2]
end
def ndV (k : Nat) : List Value := ((List.range k).map ndA).flatMap fiI
theorem ndV_succ (k : Nat) : ndV (k + 1) = ndV k ++ [.int .i64 ((100 + k : Nat) : Int), .int .i64 0, .int .i64 1] := by
  unfold ndV
  rw [List.range_succ, List.map_append, List.flatMap_append]
  rfl
set_option maxHeartbeats 8000000 in
theorem spaceEnds_walk (w : World) : Calls Try.prog 6 #[] w (Asked true w) := by
  obtain ⟨j0, hj0', hy0', hy1', hy2'⟩ := info_parts fileT
  have hj0 := Lib.hid hj0'; have hy0 := Lib.hid hy0'; have hy1 := Lib.hid hy1'; have hy2 := Lib.hid hy2'
  have hm2 : ∀ W : World, (Instr.makeSlice 39 (.int .i64 480) (.int .i64 480)).run Try.prog W = .ok (.slice (some ⟨W.heap.size, 0, none⟩) 480 480) (W.alloc (.cells (noughts 480) 5)) := fun W => make_bytes 480 (by omega) W
  have hm3 : ∀ W : World, (Instr.makeSlice 39 (.int .i64 481) (.int .i64 481)).run Try.prog W = .ok (.slice (some ⟨W.heap.size, 0, none⟩) 481 481) (W.alloc (.cells (noughts 481) 5)) := fun W => make_bytes 481 (by omega) W
  obtain ⟨D0, hD0⟩ : ∃ D, D = beginD 40 := ⟨_, rfl⟩
  have hg0 : Good D0 ⟨1, 1, []⟩ (fun _ => 0) 1 := by rw [hD0]; exact begin_good (by omega) (by omega)
  have hl0 : D0.cells.length = 40 := by rw [hD0]; exact begin_len
  have ha0 : D0.armed = 0 := by rw [hD0]; exact begin_armed
  have hc0 : Cnt D0 1 := by rw [hD0]; exact begin_cnt
  have ea : Spc.switch ⟨1, 1, []⟩ ((List.range 25).map ndA) [] D0 = (⟨1, 1, []⟩, D0, 32) := sw_many _ _ nd_may25 (by decide)
  obtain ⟨D1, eb, hg1, hc1, hl1, ha1⟩ := sw_ok hg0 (by omega) (add := (List.range 24).map ndA) (drop := []) (by omega) nd_may24 (by decide) (by rw [hl0]; exact nd_add24)
  rw [nd_sort24] at eb hg1
  replace eb : Spc.switch ⟨1, 1, []⟩ ((List.range 24).map ndA) [] D0 = (ndS1, D1, 0) := eb
  replace hg1 : Good D1 ndS1 (lenAt ((List.range 24).map ndF)) 2 := hg1
  rw [ha0] at ha1
  replace hl1 : D1.cells.length = 40 := hl1.trans hl0
  replace hc1 := hc1 1 hc0
  have ec : ndS1.switch [⟨1, 0, 1⟩] [] D1 = (ndS1, D1, 32) := sw_many _ _ nd_may1 (by decide)
  obtain ⟨D2, ee, hg2, hc2, hl2, ha2⟩ := sw_ok hg1 (by omega) (add := [⟨1, 0, 14⟩]) (drop := [100]) (by omega) nd_may2 (by decide) (by rw [hl1]; exact nd_add2)
  rw [nd_sort2] at ee hg2
  replace ee : ndS1.switch [⟨1, 0, 14⟩] [100] D1 = (ndS2, D2, 0) := ee
  obtain ⟨sf2, hsf2⟩ : ∃ f, f = lenAt ndS2.files := ⟨_, rfl⟩
  rw [← hsf2] at hg2
  replace hg2 : Good D2 ndS2 sf2 3 := hg2
  rw [ha1] at ha2
  replace hc2 := hc2 2 hc1
  have ef : ndS2.switch [⟨1, 0, 15⟩] [101] D2 = (ndS2, D2, 31) := sw_no _ _ nd_no1
  have eg : ndS2.switch [⟨2147483648, 0, 1⟩] [101] D2 = (ndS2, D2, 31) := sw_no _ _ nd_no2
  have eh : ndS2.switch [⟨0, 0, 1⟩] [101] D2 = (ndS2, D2, 31) := sw_no _ _ nd_no3
  have ei : ndS2.switch [] [101, 101] D2 = (ndS2, D2, 31) := sw_no _ _ nd_no4
  obtain ⟨P, hP⟩ : ∃ P, P = List.replicate 480 (0 : UInt8) := ⟨_, rfl⟩
  have hPl : P.length = 480 := by rw [hP]; simp
  obtain ⟨D3, ej, hg3, hc3, hl3, ha3⟩ := app_ok hg2 (n := 102) (p := P) (f := ndG) (by omega) nd_find (by omega) (by decide)
  replace ej : ndS2.append 102 P D2 = (ndS3 P, D3, 0) := ej
  replace hg3 : Good D3 (ndS3 P) sf2 3 := hg3
  rw [ha2] at ha3
  replace hc3 := hc3 3 hc2
  have ek : (ndS3 P).append 102 [] D3 = (ndS3 P, D3, 36) := ap_full (nd_find3 P) (by simp) (by rfl)
  obtain ⟨Q, hQ⟩ : ∃ Q, Q = List.replicate 481 (0 : UInt8) := ⟨_, rfl⟩
  have hQl : Q.length = 481 := by rw [hQ]; simp
  have el : (ndS3 P).append 103 Q D3 = (ndS3 P, D3, 35) := ap_long (nd_find4 P) (by omega)
  have em : (ndS3 P).append 999 [] D3 = (ndS3 P, D3, 34) := ap_none (nd_find5 P)
  replace hl3 : D3.cells.length = 40 := hl3.trans (hl2.trans hl1)
  have HEq := Lib.hid (And.intro ea (And.intro eb (And.intro ec (And.intro ee (And.intro ef (And.intro eg (And.intro eh (And.intro ei (And.intro ej (And.intro ek (And.intro el em)))))))))))
  have HG0 := Lib.hid hg0; have HG1 := Lib.hid hg1; have HG2 := Lib.hid hg2; have HG3 := Lib.hid hg3
  have HC0 := Lib.hid hc0; have HC1 := Lib.hid hc1; have HC2 := Lib.hid hc2; have HC3 := Lib.hid hc3
  have HA0 : Hid (D0.armed ≤ 9223372036854775807) := by unfold Hid; omega
  have HA1 : Hid (D1.armed ≤ 9223372036854775807) := by unfold Hid; omega
  have HA2 : Hid (D2.armed ≤ 9223372036854775807) := by unfold Hid; omega
  have HA3 : Hid (D3.armed ≤ 9223372036854775807) := by unfold Hid; omega
  have HL3 := Lib.hid hl3; have HPl := Lib.hid hPl; have HQl := Lib.hid hQl; have HP := Lib.hid hP; have HQ := Lib.hid hQ
  have HB : Hid (Calls Try.prog 24 #[.int .i64 40] w fun e w' => ∃ d s, e = .returned (.tuple #[.pointer (some ⟨d, 0, none⟩), .pointer (some ⟨s, 0, none⟩)]) ∧ Sat w (SpaceP s d ⟨1, 1, []⟩ * (Disk d D0 * Emp)) w') := by rw [hD0]; exact begin_any (w0 := w) (F := Emp) 40 (by omega) (Sat.start w)
  clear hD0 hg0 hl0 ha0 hc0 ea eb hg1 hc1 hl1 ha1 ec ee hg2 hc2 hl2 ha2 ef eg eh ei hP hPl ej hg3 hc3 hl3 ha3 ek hQ hQl el em hsf2 hj0' hy0' hy1' hy2'
  go_enter Try.func6, Try.ntmps6
  go_upto_region 2 with (go_at_call 24; (with_reducible refine HB.out.mono ?_); rintro e w2 ⟨d, s, rfl, hs⟩; have HS2 := Lib.hid hs; clear hs)
  go_wp2_with fail
  go_loopw [3, 4] (fun mv iv wr => ∃ (k : Nat) (A : Option Addr) (c : Nat), k ≤ 25 ∧ mv = .slice A k c ∧ iv = .int .i64 (k : Int) ∧ Hid (Sat w (Row 35 3 (.slice A k c) k (ndV k) * (SpaceP s d ⟨1, 1, []⟩ * (Disk d D0 * Emp))) wr)) (fun _ iv _ => 25 - (intOf iv).toNat)
  case atStart => exact ⟨0, none, 0, by omega, rfl, rfl, HS2.out.row_nil _ 3⟩
  case round =>
    obtain ⟨k, A, c, hk, rfl, rfl, HD⟩ := hrel
    by_cases hlt : k < 25
    · have hk2 : (k : Int) < 25 := by omega
      have hm : k + 1 ≤ 25 := hlt
      have HV := Lib.hid (ndV_succ k)
      obtain ⟨nk, hnk⟩ : ∃ m, m = 100 + k := ⟨_, rfl⟩
      have hwk : (100 : Int) + k = nk := by omega
      rw [← hnk] at HV
      clear hlt hnk
      go_wp2_with (at_builtin; refine wpList_appS rfl (.tmp 36) (.tmp 40) 36 rfl 35 j0 _ 3 24 Try.underlying36 hj0.out hy0.out hy1.out hy2.out rfl (by decide) (.slice A k c) k (ndV k) rfl w _ (by exact HD.out.alloc' _) (some ⟨wr.heap.size, 0, none⟩) 1 1 [.int .i64 (nk : Int), .int .i64 0, .int .i64 1] rfl (lit_rdv _ _ _) rfl (by intro u hu; simp at hu; rcases hu with rfl | rfl | rfl <;> rfl) (by unfold maxLen; omega) (by omega) ?_; intro A9 c9 w9 hs; have HS9 := Lib.hid hs; clear hs)
      go_roundw
      · exact ⟨k + 1, A9, c9, hm, rfl, by push_cast; rfl, by rw [HV.out]; exact HS9.out⟩
      · simp [intOf]; omega
    · obtain rfl : k = 25 := by omega
      have hk2 : ¬ ((25 : Nat) : Int) < 25 := by omega
      obtain ⟨A9, c9, e9, hc25, _⟩ := HD.out.row_sl
      injection e9 with e1 _ e3
      subst e1; subst e3
      obtain ⟨g, rfl, _⟩ := HD.out.row_at (show 0 < 25 by omega)
      have hcc : (24 : Int) ≤ c := by omega
      obtain ⟨FR, hFR⟩ : ∃ FR, FR = Row 35 3 (.slice (some ⟨g, 0, none⟩) 25 c) 25 (ndV 25) * Emp := ⟨_, rfl⟩
      have HS : Hid (Sat w (SpaceP s d ⟨1, 1, []⟩ * (Disk d D0 * FR)) wr) := by rw [hFR]; exact HD.out.of (by ac_rfl)
      have HV25 : Hid (∀ W, Sat w FR W → RdV W (some ⟨g, 0, none⟩) (((List.range 25).map ndA).flatMap fiI)) := fun W hW => by rw [hFR] at hW; exact hW.row_rdvX
      have HV24 : Hid (∀ W, Sat w FR W → RdV W (some ⟨g, 0, none⟩) (((List.range 24).map ndA).flatMap fiI)) := fun W hW => by
        have h9 := HV25.out W hW
        have h10 := ndV_succ 24
        unfold ndV at h10
        rw [h10] at h9
        exact rdv_pre h9
      have HFi : Hid (∀ k, ∀ f ∈ (List.range k).map ndA, k ≤ 1000 → FiOk f) := fun k f hf hk => by
        obtain ⟨i, hi, rfl⟩ := List.mem_map.1 hf
        have := List.mem_range.1 hi
        exact ⟨by show _ ≤ ((100 + i : Nat) : Int) ∧ ((100 + i : Nat) : Int) ≤ _; omega, by show _ ≤ (1 : Int) ∧ (1 : Int) ≤ _; omega⟩
      clear hFR HD HS2 hc25
      go_upto_region 10 with (go_at_call 17; have h9 := sw_row (some ⟨g, 0, none⟩) 25 c ((List.range 25).map ndA) HG0.out (by omega) HC0.out (by omega) HA0.out HS.out HV25.out (by simp) (by omega) (fun f hf => HFi.out 25 f hf (by omega)) HEq.out.1; (with_reducible refine h9.mono ?_); rintro e w10 ⟨rfl, hs⟩; have HS10 := Lib.hid hs; clear hs h9)
      go_upto_region 11 with (go_at_call 17; have h9 := sw_row (some ⟨g, 0, none⟩) 24 c ((List.range 24).map ndA) HG0.out (by omega) HC0.out (by omega) HA0.out HS10.out HV24.out (by simp) (by omega) (fun f hf => HFi.out 24 f hf (by omega)) HEq.out.2.1; (with_reducible refine h9.mono ?_); rintro e w11 ⟨rfl, hs⟩; have HS11 := Lib.hid hs; clear hs h9)
      go_upto_region 12 with (go_at_call 17; have h8 := HS11.out.allocPt 35 #[.int .i64 1, .int .i64 0, .int .i64 1]; have h9 := sw_add w11.heap.size 1 1 _ [⟨1, 0, 1⟩] HG1.out (by omega) HC1.out (by omega) HA1.out h8 rfl rfl (by omega) (by simp [FiOk]) HEq.out.2.2.1; (with_reducible refine h9.mono ?_); rintro e w12 ⟨rfl, hs⟩; have HS12 := Lib.hid hs; clear hs h9)
      go_upto_region 13 with (go_at_call 17; have h8 := (HS12.out.allocPt 35 #[.int .i64 1, .int .i64 0, .int .i64 14]).allocAt (b := w12.heap.size + 1) 3 #[.int .i64 100] (by simp); have h9 := sw_lits w12.heap.size (w12.heap.size + 1) 1 1 1 1 _ _ [⟨1, 0, 14⟩] [100] HG1.out (by omega) HC1.out (by omega) HA1.out h8.up2 rfl rfl rfl rfl (by omega) (by omega) (by simp [FiOk]) (by simp) HEq.out.2.2.2.1; (with_reducible refine h9.mono ?_); rintro e w13 ⟨rfl, hs⟩; have HS13 := Lib.hid hs; clear hs h9)
      go_upto_region 14 with (go_at_call 17; have h8 := (HS13.out.allocPt 35 #[.int .i64 1, .int .i64 0, .int .i64 15]).allocAt (b := w13.heap.size + 1) 3 #[.int .i64 101] (by simp); have h9 := sw_lits w13.heap.size (w13.heap.size + 1) 1 1 1 1 _ _ [⟨1, 0, 15⟩] [101] HG2.out (by omega) HC2.out (by omega) HA2.out h8.up2 rfl rfl rfl rfl (by omega) (by omega) (by simp [FiOk]) (by simp) HEq.out.2.2.2.2.1; (with_reducible refine h9.mono ?_); rintro e w14 ⟨rfl, hs⟩; have HS14 := Lib.hid hs; clear hs h9)
      go_upto_region 15 with (go_at_call 17; have h8 := (HS14.out.allocPt 35 #[.int .i64 2147483648, .int .i64 0, .int .i64 1]).allocAt (b := w14.heap.size + 1) 3 #[.int .i64 101] (by simp); have h9 := sw_lits w14.heap.size (w14.heap.size + 1) 1 1 1 1 _ _ [⟨2147483648, 0, 1⟩] [101] HG2.out (by omega) HC2.out (by omega) HA2.out h8.up2 rfl rfl rfl rfl (by omega) (by omega) (by simp [FiOk]) (by simp) HEq.out.2.2.2.2.2.1; (with_reducible refine h9.mono ?_); rintro e w15 ⟨rfl, hs⟩; have HS15 := Lib.hid hs; clear hs h9)
      go_upto_region 16 with (go_at_call 17; have h8 := (HS15.out.allocPt 35 #[.int .i64 0, .int .i64 0, .int .i64 1]).allocAt (b := w15.heap.size + 1) 3 #[.int .i64 101] (by simp); have h9 := sw_lits w15.heap.size (w15.heap.size + 1) 1 1 1 1 _ _ [⟨0, 0, 1⟩] [101] HG2.out (by omega) HC2.out (by omega) HA2.out h8.up2 rfl rfl rfl rfl (by omega) (by omega) (by simp [FiOk]) (by simp) HEq.out.2.2.2.2.2.2.1; (with_reducible refine h9.mono ?_); rintro e w16 ⟨rfl, hs⟩; have HS16 := Lib.hid hs; clear hs h9)
      go_upto_region 17 with (go_at_call 17; have h8 := HS16.out.allocPt 3 #[.int .i64 101, .int .i64 101]; have h9 := sw_drop w16.heap.size 2 2 _ [101, 101] HG2.out (by omega) HC2.out (by omega) HA2.out h8 rfl rfl (by omega) (by simp) HEq.out.2.2.2.2.2.2.2.1; (with_reducible refine h9.mono ?_); rintro e w17 ⟨rfl, hs⟩; have HS17 := Lib.hid hs; clear hs h9)
      go_upto_region 18 with (go_at_call 29; have h8 := HS17.out.madeX (b := w17.heap.size) (n := 480) rfl (by omega); rw [← HP.out] at h8; have h9 := ap_at 102 (some ⟨w17.heap.size, 0, none⟩) 480 480 HG2.out HC2.out (by omega) HA2.out (h8.of (show _ = SpaceP s d ndS2 * (Disk d D2 * (Rb (some ⟨w17.heap.size, 0, none⟩) P * FR)) by ac_rfl)) (fun W hW => hW.rd) HPl.out HEq.out.2.2.2.2.2.2.2.2.1; (with_reducible refine h9.mono ?_); rintro e w18 ⟨rfl, hs⟩; have HS18 := Lib.hid hs; clear hs h9)
      go_upto_region 19 with (go_at_call 29; have h9 := ap_at (p := []) 102 none 0 0 HG3.out HC3.out (by omega) HA3.out HS18.out (fun W hW hne => absurd rfl hne) rfl HEq.out.2.2.2.2.2.2.2.2.2.1; (with_reducible refine h9.mono ?_); rintro e w19 ⟨rfl, hs⟩; have HS19 := Lib.hid hs; clear hs h9)
      go_upto_region 20 with (go_at_call 29; have h8 := HS19.out.madeX (b := w19.heap.size) (n := 481) rfl (by omega); rw [← HQ.out] at h8; have h9 := ap_at 103 (some ⟨w19.heap.size, 0, none⟩) 481 481 HG3.out HC3.out (by omega) HA3.out (h8.of (show _ = SpaceP s d (ndS3 P) * (Disk d D3 * (Rb (some ⟨w19.heap.size, 0, none⟩) Q * (Rb (some ⟨w17.heap.size, 0, none⟩) P * FR))) by ac_rfl)) (fun W hW => hW.rd) HQl.out HEq.out.2.2.2.2.2.2.2.2.2.2.1; (with_reducible refine h9.mono ?_); rintro e w20 ⟨rfl, hs⟩; have HS20 := Lib.hid hs; clear hs h9)
      go_upto_region 21 with (go_at_call 29; have h9 := ap_at (p := []) 999 none 0 0 HG3.out HC3.out (by omega) HA3.out HS20.out (fun W hW hne => absurd rfl hne) rfl HEq.out.2.2.2.2.2.2.2.2.2.2.2; (with_reducible refine h9.mono ?_); rintro e w21 ⟨rfl, hs⟩; have HS21 := Lib.hid hs; clear hs h9)
      obtain ⟨X, hX⟩ : ∃ X, X = SpaceP s d (ndS3 P) * (Disk d D3 * (Rb (some ⟨w19.heap.size, 0, none⟩) Q * (Rb (some ⟨w17.heap.size, 0, none⟩) P * FR))) := ⟨_, rfl⟩
      have HX := Lib.hid hX
      have HS := Lib.hid HS21.out
      rw [← hX] at HS
      clear hX
      have HNew : Hid (Calls Try.prog 13 #[.int .i64 8] w21 fun e w' => ∃ d, e = .returned (.tuple #[.pointer (some ⟨d, 0, none⟩), .int .i64 0]) ∧ Sat w (Disk d (Dk.new 8) * X) w') := (new_any (8 : Int) w w21 X HS.out).mono fun e w' h9 => by
        unfold NewD at h9
        rw [if_pos (by omega)] at h9
        exact h9
      go_upto_region 22 with (go_at_call 13; (with_reducible refine HNew.out.mono ?_); rintro e w22 ⟨d2, rfl, hs⟩; have HS22 := Lib.hid hs; clear hs)
      have HO1 : Hid (Calls Try.prog 16 #[.pointer (some ⟨d2, 0, none⟩)] w22 fun e w' => e = .returned (.tuple #[.pointer none, .int .i64 30]) ∧ Sat w (Disk d2 (Dk.new 8) * X) w') := (open_any HS22.out (by decide) (by decide)).mono fun e w' ⟨p, h1, h2⟩ => by
        have h3 : openX (Dk.new 8) = (none, 30) := openX_none (by rw [readX_new (by omega)]) (by rw [readX_new (by omega)])
        rw [h3] at h1 h2
        obtain rfl := opt_none h2
        exact ⟨h1, h2.right⟩
      go_upto_region 23 with (go_at_call 16; (with_reducible refine HO1.out.mono ?_); rintro e w23 ⟨rfl, hs⟩; have HS23 := Lib.hid hs; clear hs)
      have HCu := Lib.hid (cut_any d2 (Dk.new 8) w w23 X HS23.out)
      go_upto_region 24 with (go_at_call 21; (with_reducible refine HCu.out.mono ?_); rintro e w24 ⟨rfl, hs⟩; have HS24 := Lib.hid hs; clear hs)
      obtain ⟨E, hE⟩ : ∃ E : Dk, E = { Dk.new 8 with off := true } := ⟨_, rfl⟩
      rw [← hE] at HS24
      have hEo : E.off = true := by rw [hE]
      have hEl : E.cells.length = 8 := by rw [hE]; rfl
      have hEw : E.writes = 0 ∧ E.pend.length = 0 ∧ E.armed = 0 := by rw [hE]; exact ⟨rfl, rfl, rfl⟩
      have HO2 : Hid (Calls Try.prog 16 #[.pointer (some ⟨d2, 0, none⟩)] w24 fun e w' => e = .returned (.tuple #[.pointer none, .int .i64 21]) ∧ Sat w (Disk d2 E * X) w') := (open_any HS24.out (by omega) (by omega)).mono fun e w' ⟨p, h1, h2⟩ => by
        rw [openX_off hEo] at h1 h2
        obtain rfl := opt_none h2
        exact ⟨h1, h2.right⟩
      go_upto_region 25 with (go_at_call 16; (with_reducible refine HO2.out.mono ?_); rintro e w25 ⟨rfl, hs⟩; have HS25 := Lib.hid hs; clear hs)
      have HFo : Hid (Calls Try.prog 15 #[.pointer (some ⟨d2, 0, none⟩)] w25 fun e w' => e = .returned (.int .i64 21) ∧ Sat w X w') := (format_any HS25.out (by omega) (by omega) (by omega) (by omega) (by omega)).mono fun e w' ⟨h1, h2⟩ => by
        rw [formatX_off hEo] at h1
        exact ⟨h1, h2.right⟩
      clear hE hEo hEl hEw
      go_upto_region 26 with (go_at_call 15; (with_reducible refine HFo.out.mono ?_); rintro e w26 ⟨rfl, hs⟩; have HS26 := Lib.hid hs; clear hs)
      have HS27 := Lib.hid HS26.out
      rw [HX.out] at HS27
      have HBl : Hid (Calls Try.prog 33 #[.pointer (some ⟨d, 0, none⟩)] w26 fun e w' => e = .returned (.int .i64 40) ∧ w26 = w') := (blocks_any d D3 w w26 _ HS27.out.up2).mono fun e w' ⟨h1, h2⟩ => by
        rw [HL3.out] at h1
        exact ⟨h1, h2⟩
      have HWk := Lib.hid (wakes3_any HS26.out)
      go_wp2_with (first
        | (go_at_call 27; (with_reducible refine (num3_any _ _).mono ?_); rintro e wx ⟨rfl, rfl⟩)
        | (go_at_call 33; (with_reducible refine HBl.out.mono ?_); rintro e wx ⟨rfl, rfl⟩)
        | (go_at_call 26; (with_reducible refine HWk.out.mono ?_); rintro e w28 ⟨rfl, hs⟩; have HS28 := Lib.hid hs; clear hs))
      go_ret
      exact ⟨rfl, HS28.out.chg⟩
end Go.Proofs.Ytjmapbhgjhlefaa
