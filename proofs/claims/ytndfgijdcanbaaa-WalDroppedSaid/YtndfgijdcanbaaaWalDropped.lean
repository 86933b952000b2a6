/- tidingslaw04.WalDropped: what was begun and not ended is told neither by itself nor in what comes behind it. -/
import Derived.Test.YtndfgijdcanbaaaWalWakes
namespace Go.Proofs.Ytndfgijdcanbaaa
open Go.RowKit
set_option linter.unusedVariables false

theorem flat_take_le (l : List (List UInt8)) (k : Nat) : (l.take k).flatten.length ≤ l.flatten.length := by
  conv => rhs; rw [← List.take_append_drop k l]
  rw [List.flatten_append, List.length_append]
  omega

set_option maxHeartbeats 2000000 in
theorem dropped_walk (n k m : Int) (w : World) (_h1 : -9223372036854775808 ≤ n ∧ n ≤ 9223372036854775807) (_h2 : -9223372036854775808 ≤ k ∧ k ≤ 9223372036854775807) (_h3 : -9223372036854775808 ≤ m ∧ m ≤ 9223372036854775807) :
    Calls Try.prog 5 #[.int .i64 n, .int .i64 k, .int .i64 m] w (Asked true w) := by
  obtain ⟨i0, hi, hz0, hz1, hz2⟩ := info_parts info_sl
  have hn := wi_le n 4000 (by omega)
  have hm := wi_le m 2000 (by omega)
  have HWn := Lib.hid (fun W => within0 n 4000 W (by omega) (by omega))
  have HWm := Lib.hid (fun W => within0 m 2000 W (by omega) (by omega))
  generalize wi n 4000 = N at *
  generalize wi m 2000 = M at *
  have HLa := Lib.hid (fun W => long_any N 1 W (by omega))
  have HLb := Lib.hid (fun W => long_any M 2 W (by omega))
  have HLena := Lib.hid (length_long N 1)
  have HLenb := Lib.hid (length_long M 2)
  generalize long N 1 = a at *
  generalize long M 2 = b at *
  go_enter Try.func5, Try.ntmps5
  go_wp2_with fail
  refine (HWn.out w).mono ?_
  rintro e w1 ⟨rfl, rfl⟩
  go_wp2_with fail
  refine (HWm.out w).mono ?_
  rintro e w1 ⟨rfl, rfl⟩
  go_wp2_with fail
  refine (HLa.out w).mono ?_
  intro e w1 h1
  obtain ⟨A1, c1, rfl, r1, k1⟩ : ∃ A c, e = .returned (.slice A a.length c) ∧ (Rd w1 A a ∧ a.length ≤ c ∧ c ≤ 9223372036854775807) ∧ Chg No w w1 := by
    obtain ⟨g, rfl, _, h2, h3⟩ := h1
    exact ⟨_, _, rfl, ⟨RdV.of_at h2 fun j hj => by simp at hj; simp [hj], Nat.le_refl _, by have := HLena.out; omega⟩, h3⟩
  have R1 := Lib.hid r1
  have K1 := Lib.hid k1
  clear h1 r1 k1
  go_wp2_with fail
  refine (split_any A1 c1 a w1 R1.out.1 R1.out.2.1 R1.out.2.2 (by have := HLena.out; omega)).mono ?_
  intro e w2 h2
  obtain ⟨A2, c2, rs, rfl, t2, r2, q2, l2, m2, k2, _⟩ := splitd_rdl h2
  have hrl : 1 ≤ rs.length ∧ rs.length ≤ 548 := by
    have e1 := congrArg List.length t2
    rw [length_split] at e1
    have e2 : (txt rs).length = rs.length := by simp [txt]
    have := needN_pos a.length (by have := HLena.out; omega)
    have := needN_le a.length
    omega
  obtain ⟨hrl1, hrl2⟩ := hrl
  have T2 := Lib.hid t2
  have R2 := Lib.hid r2
  have Q2 := Lib.hid q2
  have K2 := Lib.hid (K1.out.tr k2)
  unfold maxLen at m2
  have hlz : ((rs.length : Int) == 0) = false := by rw [beq_eq_false_iff_ne]; omega
  clear h2 t2 r2 q2 k2
  have hkl := wi_le k ((rs.length : Int) - 1) (by omega)
  have HWk := Lib.hid (fun W => within0 k ((rs.length : Int) - 1) W (by omega) (by omega))
  generalize wi k ((rs.length : Int) - 1) = K at hkl HWk
  go_wp2_with fail
  refine (HWk.out w2).mono ?_
  rintro e w3 ⟨rfl, rfl⟩
  have hKc : (K : Int) ≤ c2 := by omega
  have hle := K2.out.size
  have HB : Hid (K ≤ 548 ∧ (rs.take K).length = K ∧ ((rs.take K).map slOf).length = K) := ⟨by omega, by rw [List.length_take]; omega, by rw [List.length_map, List.length_take]; omega⟩
  go_wp2_with (at_builtin; refine wpList_app rfl (.tmp 24) (.tmp 27) 22 rfl w2.heap.size 24 i0 _ 1 24 Try.underlying22 hi hz0 hz1 hz2 rfl (by decide) (.slice (some ⟨w2.heap.size, 0, none⟩) 0 0) 0 [] rfl (own_lit w2 24 #[] (Nat.zero_le _)) A2 K c2 ((rs.take K).map slOf) rfl (((R2.out).take K).1.alloc _) (by rw [HB.out.2.2, Nat.mul_one]) (slOf_one _) (by have := HB.out.1; unfold maxLen; omega) (by have := HB.out.1; omega) (by simp) ?_; intro v3 w3 hap; have HA := Lib.hid hap; clear hap)
  have O3 := Lib.hid (show w3.ownsRow w2.heap.size 24 1 v3 K ((rs.take K).map slOf) by have := HA.out.own; simpa using this)
  have K3 := Lib.hid (HA.out.old (((Chg.refl No w2).alloc (.cells #[] 24))) (own_lit w2 24 #[] (Nat.zero_le _)) (Nat.le_refl _))
  clear HA
  refine (HLb.out w3).mono ?_
  intro e w4 h4
  obtain ⟨A4, c4, rfl, r4, k4⟩ : ∃ A c, e = .returned (.slice A b.length c) ∧ (Rd w4 A b ∧ b.length ≤ c ∧ c ≤ 9223372036854775807) ∧ Chg No w3 w4 := by
    obtain ⟨g, rfl, _, h2, h3⟩ := h4
    exact ⟨_, _, rfl, ⟨RdV.of_at h2 fun j hj => by simp at hj; simp [hj], Nat.le_refl _, by have := HLenb.out; omega⟩, h3⟩
  have R4 := Lib.hid r4
  have K4 := Lib.hid k4
  clear h4 r4 k4
  go_wp2_with fail
  refine (split_any A4 c4 b w4 R4.out.1 R4.out.2.1 R4.out.2.2 (by have := HLenb.out; omega)).mono ?_
  intro e w5 h5
  obtain ⟨A5, c5, rs2, rfl, t5, r5, q5, l5, m5, k5, own5⟩ := splitd_rdl h5
  have W5 := Lib.hid own5
  have hr2 : rs2.length ≤ 548 := by
    have e1 := congrArg List.length t5
    rw [length_split] at e1
    have e2 : (txt rs2).length = rs2.length := by simp [txt]
    have := needN_le b.length
    omega
  have T5 := Lib.hid t5
  have R5 := Lib.hid r5
  have Q5 := Lib.hid q5
  have K5 := Lib.hid (K4.out.tr k5)
  have O5 := Lib.hid (own_chg O3.out K5.out (fun _ _ => id))
  clear h5 t5 r5 q5 k5 l5 m5 own5
  go_wp2_with (at_builtin; refine wpList_app rfl (.tmp 28) (.tmp 31) 22 rfl w2.heap.size 24 i0 _ 1 24 Try.underlying22 hi hz0 hz1 hz2 rfl (by decide) v3 K ((rs.take K).map slOf) rfl O5.out A5 rs2.length c5 (rs2.map slOf) rfl R5.out.1 (by simp) (slOf_one _) (by have := HB.out.1; unfold maxLen; omega) (by have := HB.out.1; omega) (by have := (K3.out.tr K5.out).size; simpa using this) ?_; intro v6 w6 hap; have HA := Lib.hid hap; clear hap)
  have hcat : (rs.take K ++ rs2).map slOf = (rs.take K).map slOf ++ rs2.map slOf := List.map_append
  have O6 := HA.out.own
  rw [← hcat] at O6
  obtain ⟨A6, c6, rfl, rd6, _, _, _⟩ := own_rd O6
  have K6 := Lib.hid (HA.out.old (K3.out.tr K5.out) O5.out (Nat.le_refl _))
  have hw6 : RdL w6 A6 (rs.take K ++ rs2) := by
    refine ⟨rd6, fun x hx => ?_⟩
    rcases List.mem_append.1 hx with h | h
    · exact (R2.out.2 x (List.mem_of_mem_take h)).new K6.out
    · exact RdV.of_own (own_chg (W5.out.own x h) HA.out.chg (fun g hg e => own_ne (W5.out.own x h) O5.out (by decide) g hg e.symm))
  have R6 := Lib.hid hw6
  have Q6 : Hid (∀ x ∈ rs.take K ++ rs2, x.2.2.length ≤ x.2.1 ∧ x.2.1 ≤ maxLen) := fun x hx => by
    rcases List.mem_append.1 hx with h | h
    · exact Q2.out x (List.mem_of_mem_take h)
    · exact Q5.out x h
  have ht6 : txt (rs.take K ++ rs2) = (split a).take K ++ split b := by rw [txt_append, T5.out, ← T2.out, txt, txt, List.map_take]
  have F6 : Hid ((txt (rs.take K ++ rs2)).flatten.length ≤ 526080) := by
    rw [ht6, List.flatten_append, List.length_append]
    have h1 := flat_take_le (split a) K
    have h2 := split_flat a (by have := HLena.out; omega)
    have h3 := split_flat b (by have := HLenb.out; omega)
    unfold Hid
    omega
  have W6 : Hid (whole (txt (rs.take K ++ rs2)) = [b]) := by
    rw [ht6]
    refine whole_dropped a b (by have := HLena.out; omega) (by have := HLenb.out; omega) K ?_
    have e1 := congrArg List.length T2.out
    rw [length_split] at e1
    have e2 : (txt rs).length = rs.length := by simp [txt]
    omega
  have hl6 : (rs.take K ++ rs2).length = K + rs2.length := by rw [List.length_append, HB.out.2.1]
  have HW6 : Hid (∀ C, Calls Try.prog 10 #[.slice A6 (K + rs2.length) C] w6 (Wholed (txt (rs.take K ++ rs2)) w6)) := fun C => by
    have := whole_any A6 C (rs.take K ++ rs2) w6 R6.out Q6.out (by have := F6.out; omega) (by rw [hl6]; omega)
    rwa [hl6] at this
  clear hw6 ht6 hl6 hcat O6 rd6 HA
  refine (HW6.out _).mono ?_
  intro e w7 h7
  obtain ⟨A7, c7, rs7, rfl, t7, r7, k7⟩ := wholed_rdl h7
  rw [W6.out] at t7
  obtain ⟨A8, c8, rfl⟩ := rows_one t7
  obtain ⟨⟨x7, o7, rfl, hx7⟩, hr7⟩ := r7.get (j := 0) (by simp)
  simp only [Nat.add_zero, List.getElem_cons_zero] at hx7 hr7
  have R7 := Lib.hid hr7
  have X7 := Lib.hid hx7
  have K7 := Lib.hid ((K2.out.tr K6.out).tr k7)
  clear h7 t7 r7 k7 hr7
  go_wp2_with fail
  go_region_held3 (fun w' => w'.cell? ⟨x7, o7, none⟩ = some (.slice A8 b.length c8)) (first | exact q8 | exact q9 | go_keep)
    (first
      | (go_at_call 7; refine (HLb.out _).mono ?_; rintro e w8 ⟨g8, rfl, g1, g2, g3⟩; have q8 := g3.cell X7.out id)
      | (go_at_call 21; refine (same_any _ _ _ _ b b _ (by exact Rd.new (w := w7.drew) R7.out g3) (by exact RdV.of_at g2 fun j hj => by simp at hj; simp [hj])).mono ?_; rintro e w9 ⟨rfl, rfl⟩)
      | (go_at_call 20; refine (wakes_any _).mono ?_; rintro e w9 ⟨rfl, k9⟩; have q9 := k9.cell q8 id))
  go_wp2_with fail
  go_ret
  exact ⟨rfl, ((K7.out.drew).tr g3).tr k9⟩
end Go.Proofs.Ytndfgijdcanbaaa
