/- tidingslaw06.BloomBytes: any row of 8 to 262144 bytes is a filter with just these bits; a filter of ones has every key, one of noughts none. -/
import Derived.Test.YtghgmecaebheoaaBloomEnds
import Derived.Test.YtghgmecaebheoaaBloomRef2
import Derived.Test.YtghgmecaebheoaaLend
namespace Go.Proofs.Ytghgmecaebheoaa
open Go.RowKit
set_option linter.unusedVariables false

theorem hasKey_ones (key : List UInt8) : hasKey [255, 255, 255, 255, 255, 255, 255, 255] key = true := by
  apply hasKey_true
  intro j hj
  unfold goBit hasBit
  have hp := place_byte key j 8 (by omega)
  have hl : ([255, 255, 255, 255, 255, 255, 255, 255] : List UInt8).length = 8 := rfl
  rw [hl]
  generalize place key j (8 * 8) = p at hp
  have e : ([255, 255, 255, 255, 255, 255, 255, 255] : List UInt8).getD (p / 8) 0 = 255 := by
    generalize p / 8 = i at hp
    match i, hp with
    | 0, _ => rfl
    | 1, _ => rfl
    | 2, _ => rfl
    | 3, _ => rfl
    | 4, _ => rfl
    | 5, _ => rfl
    | 6, _ => rfl
    | 7, _ => rfl
  rw [e]
  have hm := mask_nat p
  have hq : p % 8 < 8 := Nat.mod_lt _ (by omega)
  generalize p % 8 = q at hm hq
  rw [bne_iff_ne]
  intro h0
  have h1 : (255 &&& mask p).toNat = 0 := by rw [h0]; rfl
  rw [UInt8.toNat_and, hm] at h1
  match q, hq with
  | 0, _ => simp at h1
  | 1, _ => simp at h1
  | 2, _ => simp at h1
  | 3, _ => simp at h1
  | 4, _ => simp at h1
  | 5, _ => simp at h1
  | 6, _ => simp at h1
  | 7, _ => simp at h1

theorem has_no (g h n c kc : Nat) (B key : List UInt8) (A : Option Addr) (w : World) (hF : Filt w g h n c B) (hn : 8 ≤ n ∧ n ≤ 262144) (hk : Rd w A key) (hl : key.length ≤ 140737488355328) (hy : hasKey B key = false) :
    Calls Try.prog 16 #[.pointer (some ⟨g, 0, none⟩), .slice A key.length kc] w (Asked false w) := by
  have := has_any g h n c kc B key A w hF hn hk hl
  rwa [hy] at this

set_option maxRecDepth 100000 in
set_option maxHeartbeats 1000000 in
theorem bytesLaw_walk (A : Option Addr) (c : Nat) (b0 : List UInt8) (A' : Option Addr) (c' : Nat) (key : List UInt8) (w : World)
    (h : b0.length ≤ c ∧ c ≤ maxLen ∧ Rd w A b0 ∧ b0.length ≤ 140737488351232 ∧ (A = none → c = 0)) (h' : key.length ≤ c' ∧ c' ≤ maxLen ∧ Rd w A' key ∧ key.length ≤ 140737488351232 ∧ (A' = none → c' = 0)) :
    Calls Try.prog 6 #[.slice A b0.length c, .slice A' key.length c'] w (Asked true w) := by
  obtain ⟨h1, h2, h3, h4, _⟩ := h
  obtain ⟨_, _, k3, k4, _⟩ := h'
  unfold maxLen at h2
  have HA := Lib.hid (h3.take 2000)
  have HK := Lib.hid k3
  have HCut := Lib.hid (fun w => cut_any A c b0 2000 w h1 (by omega) (by omega))
  have hl : (b0.take 2000).length ≤ 2000 := by rw [List.length_take]; omega
  clear h3 k3
  generalize b0.take 2000 = l at HA HCut hl
  go_enter Try.func6, Try.ntmps6
  go_wp2_with fail
  refine (HCut.out w).mono ?_
  rintro e w1 ⟨rfl, rfl⟩
  go_wp2_with fail
  refine (lend_any A c l w HA.out (by omega)).mono ?_
  rintro e w1 ⟨g, rfl, hg, hat, k1⟩
  have HL := Lib.hid hat
  have K1 := Lib.hid k1
  clear hat k1
  go_wp2_with fail
  by_cases h8 : l.length < 8
  · refine (from_no _ _ l w1 (.inl h8) (by omega)).mono ?_
    rintro e w2 ⟨rfl, rfl⟩
    go_wp2_with (go_at_call 10; refine (num_any _ _).mono ?_; rintro e w3 ⟨rfl, rfl⟩)
    refine (back_yes g c A l w1 HL.out (HA.out.new K1.out) (by omega)).mono ?_
    rintro e w2 ⟨rfl, k2⟩
    have K2 := Lib.hid (K1.out.own k2 (fun i hi => by cases hi; exact hg))
    clear k2
    go_wp2_with fail
    refine (wakes_any w2).mono ?_
    rintro e w3 ⟨rfl, k3⟩
    have K3 := Lib.hid k3
    clear k3
    go_wp2_with fail
    go_ret
    exact ⟨rfl, K2.out.tr K3.out⟩
  · refine (from_yes _ _ l w1 (marked_rd HL.out) (by omega) (by omega)).mono ?_
    rintro e w2 ⟨f, fh, fc, rfl, f2, hf2, hfh2, k2⟩
    have F2 := Lib.hid f2
    have K2 := Lib.hid (K1.out.tr k2)
    have L2 := Lib.hid (HL.out.chg k2 id)
    have hlt := HL.out.lt
    have D2 : Hid (f ≠ g ∧ fh ≠ g) := ⟨by omega, by omega⟩
    clear f2 k2 hlt
    go_wp2_with (go_at_call 10; refine (num_any _ _).mono ?_; rintro e w3 ⟨rfl, rfl⟩)
    refine (back_yes g c A l w2 L2.out (HA.out.new K2.out) (by omega)).mono ?_
    rintro e w3 ⟨rfl, k3⟩
    have K3 := Lib.hid (K2.out.own k3 (fun i hi => by cases hi; exact hg))
    have F3 := Lib.hid (F2.out.chg k3 D2.out.1 D2.out.2)
    clear k3
    go_wp2_with fail
    refine (bytes_any f fh l.length fc l w3 F3.out (by omega)).mono ?_
    intro e w4 h4
    obtain ⟨A4, c4, rfl, R4, k4⟩ := told_rd h4
    have H4 := Lib.hid R4
    have K4 := Lib.hid (K3.out.tr k4)
    have F4 := Lib.hid (F3.out.new k4)
    clear h4 R4 k4
    go_wp2_with fail
    refine (same_any A4 A c4 c l l w4 H4.out (HA.out.new K4.out)).mono ?_
    rintro e w5 ⟨rfl, rfl⟩
    rw [beq_self_eq_true]
    go_wp2_with fail
    refine (has_any f fh l.length fc c' l key A' w4 F4.out (by omega) (HK.out.new K4.out) (by omega)).mono ?_
    rintro e w5 ⟨rfl, k5⟩
    have K5 := Lib.hid (K4.out.tr k5)
    clear k5
    go_wp2_with fail
    refine (refHas_any w5.heap.size l.length c c' A A' l key _ (by rw [(At.new w5 _ _).cell]; rfl) rfl ((HA.out.new K5.out).alloc _) (by omega) ((HK.out.new K5.out).alloc _) (by omega)).mono ?_
    rintro e w6 ⟨rfl, k6⟩
    have K6 := Lib.hid (K5.out.tr (((Chg.refl No w5).alloc (.cells #[.slice A l.length c] 36)).tr k6))
    clear k6
    generalize hasKey l key = q
    have hqq : (q != q) = false := by cases q <;> rfl
    go_wp2_with fail
    refine (from_yes _ 8 [255, 255, 255, 255, 255, 255, 255, 255] _ (RdV.lit w6 #[.int .u8 255, .int .u8 255, .int .u8 255, .int .u8 255, .int .u8 255, .int .u8 255, .int .u8 255, .int .u8 255] 5 (0, 0)) (by decide) (by decide)).mono ?_
    rintro e w7 ⟨o, oh, oc, rfl, f7, _, _, k7⟩
    have O7 := Lib.hid f7
    have K7 := Lib.hid (K6.out.tr (((Chg.refl No w6).alloc (.cells #[.int .u8 255, .int .u8 255, .int .u8 255, .int .u8 255, .int .u8 255, .int .u8 255, .int .u8 255, .int .u8 255] 5)).tr k7))
    clear f7 k7
    have hmk : ∀ W : World, (Instr.makeSlice 34 (.int .i64 8) (.int .i64 8)).run Try.prog W = .ok (.slice (some ⟨W.heap.size, 0, none⟩) 8 8) (W.alloc (.cells (madeCells #[.int .u8 0] 8) 5)) := fun W => run_make_u8 8 (by omega) W
    generalize hz : madeCells #[Value.int .u8 0] 8 = Z at hmk
    have HZ := Lib.hid hz
    clear hz
    go_wp2_with fail
    refine (from_yes_n 8 _ _ (List.replicate 8 0) _ List.length_replicate (by rw [← HZ.out]; exact rd_made w7 8) (by omega) (by omega)).mono ?_
    rintro e w8 ⟨z, zh, zc, rfl, f8, _, _, k8⟩
    have k8' := ((Chg.refl No w7).alloc (.cells Z 5)).tr k8
    have Z8 := Lib.hid f8
    have O8 := Lib.hid (O7.out.new k8')
    have K8 := Lib.hid (K7.out.tr k8')
    clear f8 k8 k8'
    go_wp2_with (go_at_call 10; refine (num_any _ _).mono ?_; rintro e w9 ⟨rfl, rfl⟩)
    refine (has_yes o oh 8 oc c' _ key A' w8 O8.out (by omega) (HK.out.new K8.out) (by omega) (hasKey_ones key)).mono ?_
    rintro e w9 ⟨rfl, k9⟩
    have K9 := Lib.hid (K8.out.tr k9)
    have Z9 := Lib.hid (Z8.out.new k9)
    clear k9
    go_wp2_with fail
    refine (has_no z zh _ zc c' _ key A' w9 Z9.out (by simp) (HK.out.new K9.out) (by omega) (hasKey_zero 8 key)).mono ?_
    rintro e w10 ⟨rfl, k10⟩
    have K10 := Lib.hid (K9.out.tr k10)
    clear k10
    go_wp2_with fail
    refine (wakes_any w10).mono ?_
    rintro e w11 ⟨rfl, k11⟩
    have K11 := Lib.hid (K10.out.tr k11)
    clear k11
    go_wp2_with fail
    go_ret
    exact ⟨rfl, K11.out⟩
end Go.Proofs.Ytghgmecaebheoaa
