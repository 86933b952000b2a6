/- WalEnds: the walk. -/
import Derived.Test.YtjmapbhgjhlefaaQWalApp
import Derived.Test.YtjmapbhgjhlefaaQSpEnds
namespace Go.Proofs.Ytjmapbhgjhlefaa
open Go.RowKit
set_option linter.unusedVariables false
set_option maxRecDepth 100000

theorem num4_any (k : Int) (w : World) : Calls Try.prog 49 #[.int .i64 k] w fun e w' => e = .returned (.int .i64 k) ∧ w = w' := by
  go_enter Try.func49, Try.ntmps49
  go_wp2
  go_ret
  exact ⟨rfl, rfl⟩
/-- Of a batch that is too long there are no frames. -/
theorem split_long (A : Option Addr) (c n : Nat) (w : World) (hn : 262144 < n) (hm : n ≤ 9223372036854775807) :
    Calls Try.prog 47 #[.slice A n c] w fun e w' => e = .returned (.slice none 0 0) ∧ w = w' := by
  have HNeed : Hid (∀ W, Calls Try.prog 50 #[.int .i64 (n : Int)] W fun e w' => e = .returned (.int .i64 0) ∧ W = w') := fun W => by
    have h9 := need_nat n W hm
    have e : needN n = 0 := by unfold needN; rw [if_neg (by omega)]
    rw [e] at h9
    exact h9
  go_enter Try.func47, Try.ntmps47
  go_wp2_with (go_at_call 50; (with_reducible refine (HNeed.out _).mono ?_); rintro e w1 ⟨rfl, rfl⟩)
  go_loopw [4, 11] (fun v iv wr => v = .slice none 0 0 ∧ iv = .int .i64 0 ∧ Hid (wr = w)) (fun _ _ _ => 0)
  case atStart => exact ⟨rfl, rfl, rfl⟩
  case round =>
    obtain ⟨rfl, rfl, HW⟩ := hrel
    go_wp2_with fail
    go_ret
    exact ⟨rfl, HW.out.symm⟩
theorem long_rd (n : Nat) (v : Int) (w : World) (hn : n ≤ 1000000) : Calls Try.prog 48 #[.int .i64 n, .int .i64 v] w fun e w' => ∃ A, e = .returned (.slice A n n) ∧ Rd w' A (long n v) ∧ Chg No w w' := (long_any n v w hn).mono fun e w' h9 => by
  obtain ⟨g, rfl, _, k2, k3⟩ := h9
  have hl := length_long n v
  refine ⟨_, by rw [hl], RdV.of_at k2 fun j hj => by simp at hj; simp [hj], k3⟩
theorem split_n (A : Option Addr) (n k : Nat) (b : List UInt8) (w : World) (hA : Rd w A b) (hb : b.length = n) (hk : needN n = k) (hn : n ≤ 262144) : Calls Try.prog 47 #[.slice A n n] w fun e w' => ∃ A2 c2, e = .returned (.slice A2 k c2) ∧ Chg No w w' := by
  subst hb
  refine (split_any A b.length b w hA (by omega) (by omega) (by omega)).mono fun e w' h8 => ?_
  obtain ⟨A2, c2, rs, rfl, k1, _, _, _, _, k3, _⟩ := splitd_rdl h8
  have h7 : rs.length = k := by
    have h6 := split_len b
    rw [hk, ← k1] at h6
    unfold txt at h6
    rw [List.length_map] at h6
    exact h6
  exact ⟨A2, c2, by rw [h7], k3⟩
theorem need_k (n k : Nat) (w : World) (hn : n ≤ 9223372036854775807) (hk : needN n = k) : Calls Try.prog 50 #[.int .i64 n] w fun e w' => e = .returned (.int .i64 k) ∧ w = w' := by
  have h9 := need_nat n w hn
  rwa [hk] at h9
theorem we_548 : needN 262144 = 548 := by decide
theorem we_0 : needN 262145 = 0 := by decide
def weS1 : Spc := ⟨0, 2, [⟨1, 2, 2, 2, 1, []⟩]⟩
section
variable {w0 w : World} {F : SP} {s d n m : Nat} {D : Dk} {sf : Nat → Nat} {lim : Nat}
theorem appsL_ok {S S' : Spc} {D D' : Dk} {n : Int} {p : List UInt8} {ps : List (List UInt8)} (h : S.append n p D = (S', D', 0)) : Spc.appsL n (p :: ps) S D = Spc.appsL n ps S' D' := by
  rw [appsL_cons, h]
  exact if_pos rfl
theorem we_find : weS1.find 1 = some ⟨1, 2, 2, 2, 1, []⟩ := rfl
theorem we_find2 (p : List UInt8) : (weS1.grow 1 p).find 1 = some ⟨1, 2, 2, 2, 1, [p]⟩ := rfl
theorem we_long : weS1.wapp 1 (ndP 262145) D = (weS1, D, 40) := by
  unfold Spc.wapp
  rw [we_find]
  simp only
  rw [if_pos (by unfold ndP; rw [List.length_replicate]; omega)]
theorem we_end : weS1.wapp 1 (ndP 959) D = (weS1, D, 41) := by
  have h1 : (ndP 959).length = 959 := List.length_replicate ..
  have h2 : needN 959 = 3 := by decide
  unfold Spc.wapp
  rw [we_find]
  simp only
  rw [h1, h2, if_neg (by omega), if_pos (by simp)]
theorem we_ok (hg : Good D weS1 sf lim) (ha : D.armed = 0) : ∃ S' D', weS1.wapp 1 (ndP 958) D = (S', D', 0) := by
  have h1 : (ndP 958).length = 958 := List.length_replicate ..
  have h2 : needN 958 = 2 := by decide
  have h3 := split_len (ndP 958)
  rw [h1, h2] at h3
  have h4 := fun p (hp : p ∈ split (ndP 958)) => split_each hp
  have e1 : weS1.wapp 1 (ndP 958) D = Spc.appsL 1 (split (ndP 958)) weS1 D := by
    unfold Spc.wapp
    rw [we_find]
    simp only
    rw [h1, h2, if_neg (by omega), if_neg (by simp)]
  rw [e1]
  generalize split (ndP 958) = ps at *
  match ps, h3 with
  | [p, q], _ =>
    obtain ⟨D1, e2, g1, _, _, a1⟩ := app_ok hg (n := 1) (p := p) (by omega) we_find (h4 p (by simp)) (by decide)
    obtain ⟨D2, e3, g2, _, _, a2⟩ := app_ok g1 (n := 1) (p := q) (by omega) (we_find2 p) (h4 q (by simp)) (by show 1 < 2; omega)
    exact ⟨_, D2, by rw [appsL_ok e2, appsL_ok e3]; rfl⟩
end
set_option maxHeartbeats 4000000 in
theorem walEnds_walk (w : World) : Calls Try.prog 10 #[] w (Asked true w) := by
  have hm1 : ∀ W : World, (Instr.makeSlice 39 (.int .i64 262145) (.int .i64 262145)).run Try.prog W = .ok (.slice (some ⟨W.heap.size, 0, none⟩) 262145 262145) (W.alloc (.cells (noughts 262145) 5)) := fun W => make_bytes 262145 (by omega) W
  have hm2 : ∀ W : World, (Instr.makeSlice 39 (.int .i64 959) (.int .i64 959)).run Try.prog W = .ok (.slice (some ⟨W.heap.size, 0, none⟩) 959 959) (W.alloc (.cells (noughts 959) 5)) := fun W => make_bytes 959 (by omega) W
  have hm3 : ∀ W : World, (Instr.makeSlice 39 (.int .i64 958) (.int .i64 958)).run Try.prog W = .ok (.slice (some ⟨W.heap.size, 0, none⟩) 958 958) (W.alloc (.cells (noughts 958) 5)) := fun W => make_bytes 958 (by omega) W
  obtain ⟨D0, hD0⟩ : ∃ D, D = beginD 8 := ⟨_, rfl⟩
  have hg0 : Good D0 ⟨1, 1, []⟩ (fun _ => 0) 1 := by rw [hD0]; exact begin_good (by omega) (by omega)
  have hl0 : D0.cells.length = 8 := by rw [hD0]; exact begin_len
  have ha0 : D0.armed = 0 := by rw [hD0]; exact begin_armed
  have hc0 : Cnt D0 1 := by rw [hD0]; exact begin_cnt
  obtain ⟨D1, e1, hg1, hc1, hl1, ha1⟩ := sw_ok hg0 (by omega) (add := [⟨1, 0, 2⟩]) (drop := []) (fs := weS1.files) (by omega) (by decide) (by decide) (by rw [hl0]; rfl)
  replace e1 : Spc.switch ⟨1, 1, []⟩ [⟨1, 0, 2⟩] [] D0 = (weS1, D1, 0) := e1
  replace hg1 : Good D1 weS1 (lenAt (sortN weS1.files)) 2 := hg1
  replace hc1 := hc1 1 hc0
  obtain ⟨S3, D3, e3⟩ := we_ok hg1 (by omega)
  have HG0 := Lib.hid hg0; have HG1 := Lib.hid hg1; have HC0 := Lib.hid hc0; have HC1 := Lib.hid hc1; have HE1 := Lib.hid e1; have HE3 := Lib.hid e3
  have HA0 : Hid (D0.armed ≤ 9223372036854775807) := by unfold Hid; omega
  have HA1 : Hid (D1.armed ≤ 9223372036854775807) := by unfold Hid; omega
  have HLo : Hid (∀ W, Calls Try.prog 48 #[.int .i64 262144, .int .i64 1] W fun e w' => ∃ A, e = .returned (.slice A 262144 262144) ∧ Rd w' A (long 262144 1) ∧ Chg No W w') := fun W => long_rd 262144 1 W (by omega)
  have HLo2 : Hid (∀ W, Calls Try.prog 48 #[.int .i64 262145, .int .i64 1] W fun e w' => ∃ A, e = .returned (.slice A 262145 262145) ∧ Rd w' A (long 262145 1) ∧ Chg No W w') := fun W => long_rd 262145 1 W (by omega)
  have HSp : Hid (∀ W A, Rd W A (long 262144 1) → Calls Try.prog 47 #[.slice A 262144 262144] W fun e w' => ∃ A2 c2, e = .returned (.slice A2 548 c2) ∧ Chg No W w') := fun W A hA => split_n A 262144 548 _ W hA (length_long _ _) we_548 (by omega)
  have HSp2 : Hid (∀ W A, Calls Try.prog 47 #[.slice A 262145 262145] W fun e w' => e = .returned (.slice none 0 0) ∧ W = w') := fun W A => split_long A 262145 262145 W (by omega) (by omega)
  have HNe : Hid (∀ W, Calls Try.prog 50 #[.int .i64 262144] W fun e w' => e = .returned (.int .i64 548) ∧ W = w') := fun W => need_k 262144 548 W (by omega) we_548
  have HNe2 : Hid (∀ W, Calls Try.prog 50 #[.int .i64 262145] W fun e w' => e = .returned (.int .i64 0) ∧ W = w') := fun W => need_k 262145 0 W (by omega) we_0
  have HB : Hid (∀ W, Chg No w W → Calls Try.prog 24 #[.int .i64 8] W fun e w' => ∃ d s, e = .returned (.tuple #[.pointer (some ⟨d, 0, none⟩), .pointer (some ⟨s, 0, none⟩)]) ∧ Sat w (SpaceP s d ⟨1, 1, []⟩ * (Disk d D0 * Emp)) w') := fun W hW => by rw [hD0]; exact begin_any (w0 := w) (F := Emp) 8 (by omega) ((Sat.start w).new hW)
  clear hD0 hg0 hl0 ha0 hc0 hg1 hc1 hl1 ha1 e1 e3
  go_enter Try.func10, Try.ntmps10
  go_upto_region 2 with (first
    | (go_at_call 48; (with_reducible refine (HLo.out _).mono ?_); rintro e w1 ⟨A1, rfl, hr, hk⟩; have HR1 := Lib.hid hr; have HK1 := Lib.hid hk; clear hr hk)
    | (go_at_call 47; (with_reducible refine (HSp.out _ _ HR1.out).mono ?_); rintro e w2 ⟨A2, c2, rfl, hk⟩; have HK2 := Lib.hid (HK1.out.tr hk); clear hk))
  go_upto_region 3 with (go_at_call 24; (with_reducible refine (HB.out _ HK2.out).mono ?_); rintro e w3 ⟨d, s, rfl, hs⟩; have HS3 := Lib.hid hs; clear hs)
  clear HK1 HK2 HR1
  go_upto_region 5 with (first
    | (go_at_call 17; have h8 := HS3.out.allocPt 35 #[.int .i64 1, .int .i64 0, .int .i64 2]; have h9 := sw_add w3.heap.size 1 1 _ [⟨1, 0, 2⟩] HG0.out (by omega) HC0.out (by omega) HA0.out h8 rfl rfl (by omega) (fun f hf => by rw [List.mem_singleton.1 hf]; exact ⟨by dsimp only; omega, by dsimp only; omega⟩) HE1.out; (with_reducible refine h9.mono ?_); rintro e w4 ⟨rfl, hs⟩; have HS4 := Lib.hid hs; clear hs h9 h8)
    | (go_at_call 49; (with_reducible refine (num4_any _ _).mono ?_); rintro e wx ⟨rfl, rfl⟩))
  go_upto_region 6 with (go_at_call 19; have h8 := HS4.out.madeX (b := w4.heap.size) (n := 262145) rfl (by omega); have h9 := wapp_sp (b := ndP 262145) 1 (some ⟨w4.heap.size, 0, none⟩) 262145 HG1.out HC1.out (by omega) HA1.out (h8.of (show _ = SpaceP s d weS1 * (Disk d D1 * (Rb (some ⟨w4.heap.size, 0, none⟩) (ndP 262145) * Emp)) by unfold ndP; ac_rfl)) (fun W hW => hW.rd) (Nat.le_of_eq (List.length_replicate ..)) (by omega); rw [we_long, show (ndP 262145).length = 262145 from List.length_replicate ..] at h9; (with_reducible refine h9.mono ?_); rintro e w5 ⟨rfl, hs⟩; have HS5 := Lib.hid hs.drop3; clear hs h9 h8)
  go_upto_region 7 with (go_at_call 19; have h8 := HS5.out.madeX (b := w5.heap.size) (n := 959) rfl (by omega); have h9 := wapp_sp (b := ndP 959) 1 (some ⟨w5.heap.size, 0, none⟩) 959 HG1.out HC1.out (by omega) HA1.out (h8.of (show _ = SpaceP s d weS1 * (Disk d D1 * (Rb (some ⟨w5.heap.size, 0, none⟩) (ndP 959) * Emp)) by unfold ndP; ac_rfl)) (fun W hW => hW.rd) (Nat.le_of_eq (List.length_replicate ..)) (by omega); rw [we_end, show (ndP 959).length = 959 from List.length_replicate ..] at h9; (with_reducible refine h9.mono ?_); rintro e w6 ⟨rfl, hs⟩; have HS6 := Lib.hid hs.drop3; clear hs h9 h8)
  go_upto_region 8 with (go_at_call 19; have h8 := HS6.out.madeX (b := w6.heap.size) (n := 958) rfl (by omega); have h9 := wapp_sp (b := ndP 958) 1 (some ⟨w6.heap.size, 0, none⟩) 958 HG1.out HC1.out (by omega) HA1.out (h8.of (show _ = SpaceP s d weS1 * (Disk d D1 * (Rb (some ⟨w6.heap.size, 0, none⟩) (ndP 958) * Emp)) by unfold ndP; ac_rfl)) (fun W hW => hW.rd) (Nat.le_of_eq (List.length_replicate ..)) (by omega); rw [HE3.out, show (ndP 958).length = 958 from List.length_replicate ..] at h9; (with_reducible refine h9.mono ?_); rintro e w7 ⟨rfl, hs⟩; have HS7 := Lib.hid hs.drop3; clear hs h9 h8)
  go_wp2_with (first
    | (go_at_call 49; (with_reducible refine (num4_any _ _).mono ?_); rintro e wx ⟨rfl, rfl⟩)
    | (go_at_call 50; first | ((with_reducible refine (HNe.out _).mono ?_); rintro e wx ⟨rfl, rfl⟩) | ((with_reducible refine (HNe2.out _).mono ?_); rintro e wx ⟨rfl, rfl⟩))
    | (go_at_call 48; (with_reducible refine (HLo2.out _).mono ?_); rintro e w8 ⟨A8, rfl, _, hk⟩; have HK8 := Lib.hid hk; clear hk)
    | (go_at_call 47; (with_reducible refine (HSp2.out _ _).mono ?_); rintro e wx ⟨rfl, rfl⟩)
    | (go_at_call 51; (with_reducible refine (wakes_any _).mono ?_); rintro e w9 ⟨rfl, hk⟩; have HK9 := Lib.hid hk; clear hk))
  go_ret
  exact ⟨rfl, HS7.out.chg.tr (HK8.out.tr HK9.out)⟩
end Go.Proofs.Ytjmapbhgjhlefaa
