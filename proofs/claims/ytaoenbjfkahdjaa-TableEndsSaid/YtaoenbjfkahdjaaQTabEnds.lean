/- TableEnds. (Written by gen_tabends.py.) -/
import Derived.Test.YtaoenbjfkahdjaaQ22
namespace Go.Proofs.Ytaoenbjfkahdjaa
open Go.RowKit
set_option linter.unusedVariables false
set_option maxRecDepth 100000

theorem one_bad (e : Ent) (h : mayE e = false) : buildE [e] = 71 := by
  unfold buildE
  rw [if_neg (by simp [sortedB]), if_pos]
  exact .inr (by simp [h])
theorem one_ok (e : Ent) (h : mayE e = true) : buildE [e] = 0 := by
  unfold buildE
  rw [if_neg (by simp [sortedB]), if_neg]
  rintro (h1 | h1)
  · simp at h1
  · simp [h] at h1
theorem end_len : (buildB []).length = 36 := by decide +kernel
theorem end_k129 : buildE [⟨List.replicate 129 0, [], 0, false⟩] = 71 := one_bad _ (by unfold mayE; rw [List.length_replicate]; rfl)
theorem end_ok : buildE [⟨List.replicate 128 0, List.replicate 16384 0, 0, false⟩] = 0 := one_ok _ (mayE_iff.2 ⟨by rw [List.length_replicate]; omega, by rw [List.length_replicate]; omega, fun h => (by cases h), by decide⟩)
theorem end_v16385 : buildE [⟨[], List.replicate 16385 0, 0, false⟩] = 71 := one_bad _ (by unfold mayE; rw [List.length_replicate]; rfl)
theorem end_dead : buildE [⟨[], List.replicate 1 0, 0, true⟩] = 71 := one_bad _ (by decide)
theorem end_neg : buildE [⟨[], [], -1, false⟩] = 71 := one_bad _ (by decide)
theorem end_12 : buildE [⟨[], [], 1, false⟩, ⟨[], [], 2, false⟩] = 70 := by decide
theorem end_22 : buildE [⟨[], [], 2, false⟩, ⟨[], [], 2, false⟩] = 70 := by decide
theorem end_21 : buildE [⟨[], [], 2, false⟩, ⟨[], [], 1, false⟩] = 0 := by decide
theorem end_open : openE [] = 72 := by decide
/-- Build, of a row that has just been laid. -/
theorem bldT (W : World) (cs : Array Value) (es : List En) (n : Nat) (z : Nat) (hcs : cs.toList = es.flatMap enV) (hn : es.length = n) (hn2 : n ≤ 1000) (hr : EnsR W es) (hcap : ∀ y ∈ es, CapE y) (hsm : ∀ y ∈ es, y.key.2.2.length ≤ 1000000 ∧ y.value.2.2.length ≤ 1000000 ∧ y.seq < 9223372036854775808) (hz : buildE (es.map En.ent) = z) :
    Calls Try.prog 14 #[.slice (some ⟨W.heap.size, 0, none⟩) n n] (W.alloc (.cells cs 34)) fun x w' => ∃ (A : Option Addr) (m c : Nat), x = .returned (.tuple #[.slice A m c, .int .i64 (z : Int)]) ∧ Chg No W w' := by
  have k1 : Chg No W (W.alloc (.cells cs 34)) := (Chg.refl No W).alloc _
  subst hn
  have hm : es.length ≤ maxLen := by unfold maxLen; omega
  have hl := lit_rdv W cs 34
  rw [hcs] at hl
  refine (build_any (some ⟨W.heap.size, 0, none⟩) es.length es _ hl (hr.new k1) (Nat.le_refl _) hm (fun e he => ?_) (fun e he => (hsm e he).2.2)).mono ?_
  · have h1 := hsm e he
    have h2 := hcap e he
    exact ⟨by omega, by omega, h2.1.1, h2.1.2⟩
  · rintro x w' (⟨_, rfl, h3⟩ | ⟨h2, B, d, rfl, _, _, h4⟩)
    · rw [hz]
      exact ⟨_, _, _, rfl, k1.tr h3⟩
    · rw [hz] at h2
      subst h2
      exact ⟨_, _, _, rfl, k1.tr h4.chg⟩
theorem capN (K V : Option Addr) (m n : Nat) (k v : List UInt8) (s : Int) (d : Bool) (h1 : k.length ≤ m) (h2 : m ≤ 1000000) (h3 : v.length ≤ n) (h4 : n ≤ 1000000) : CapE ⟨(K, m, k), (V, n, v), s, d⟩ := ⟨⟨h1, by show m ≤ maxLen; unfold maxLen; omega⟩, h3, by show n ≤ maxLen; unfold maxLen; omega⟩
theorem smN (K V : Option Addr) (m n : Nat) (k v : List UInt8) (s : Int) (d : Bool) (h1 : k.length ≤ 1000000) (h2 : v.length ≤ 1000000) (h3 : s < 9223372036854775808) : (⟨(K, m, k), (V, n, v), s, d⟩ : En).key.2.2.length ≤ 1000000 ∧ (⟨(K, m, k), (V, n, v), s, d⟩ : En).value.2.2.length ≤ 1000000 ∧ (⟨(K, m, k), (V, n, v), s, d⟩ : En).seq < 9223372036854775808 := ⟨h1, h2, h3⟩
theorem rd_noughts (W : World) (n : Nat) : Rd (W.alloc (.cells (noughts n) 5)) (some ⟨W.heap.size, 0, none⟩) (List.replicate n 0) := by
  have h := lit_rdv W (noughts n) 5
  unfold noughts at h ⊢
  exact h
set_option maxRecDepth 100000 in
set_option maxHeartbeats 4000000 in
theorem tableEnds_walk (w : World) : Calls Try.prog 6 #[] w (Asked true w) := by
  have hm1 : ∀ W : World, (Instr.makeSlice 32 (.int .i64 129) (.int .i64 129)).run Try.prog W = .ok (.slice (some ⟨W.heap.size, 0, none⟩) 129 129) (W.alloc (.cells (noughts 129) 5)) := fun W => make_bytes 129 (by omega) W
  have hm2 : ∀ W : World, (Instr.makeSlice 32 (.int .i64 16385) (.int .i64 16385)).run Try.prog W = .ok (.slice (some ⟨W.heap.size, 0, none⟩) 16385 16385) (W.alloc (.cells (noughts 16385) 5)) := fun W => make_bytes 16385 (by omega) W
  go_enter Try.func6, Try.ntmps6
  go_wp2_with fail
  refine (bld7 none 0 [] [] rfl (by decide) (by simp) w (RdV.nil _ _) (fun e he => by simp at he) (by simp) (Nat.zero_le _) (by simp)).mono ?_
  rintro x w1 ⟨B, d, rfl, -, -, q3⟩
  rw [end_len]
  have HC1 := Lib.hid q3.chg
  clear q3
  go_wp2_with fail
  refine (open_any none 0 [] w1 (Rd.nil _ _) (Nat.le_refl _) (Nat.zero_le _) (by simp)).mono ?_
  rintro x w2 hx
  obtain ⟨_, rfl, q1⟩ := hx.resolve_right (fun h => by rw [end_open] at h; cases h.1)
  rw [end_open]
  have HC2 := Lib.hid (HC1.out.tr q1)
  clear q1 hx
  go_upto_region 5 with fail
  obtain ⟨KB, hK⟩ : ∃ KB, KB = w2.heap.size := ⟨_, rfl⟩
  obtain ⟨wk, hwk⟩ : ∃ wk, wk = w2.alloc (.cells (noughts 129) 5) := ⟨_, rfl⟩
  obtain ⟨V, hV⟩ : ∃ V, V = wk.heap.size := ⟨_, rfl⟩
  obtain ⟨w3, hw3⟩ : ∃ w3, w3 = wk.alloc (.cells (noughts 16385) 5) := ⟨_, rfl⟩
  have HC3 : Hid (Chg No w w3) := by rw [hw3, hwk]; exact (HC2.out.alloc _).alloc _
  have HK : Hid (Rd w3 (some ⟨KB, 0, none⟩) (List.replicate 129 0)) := by rw [hw3]; refine Rd.alloc ?_ _; rw [hwk, hK]; exact rd_noughts w2 129
  have HV : Hid (Rd w3 (some ⟨V, 0, none⟩) (List.replicate 16385 0)) := by rw [hw3, hV]; exact rd_noughts wk 16385
  have hV2 : w2.heap.size + 1 = V := by rw [hV, hwk]; simp
  rw [hV2, ← hwk, ← hw3, ← hK]
  clear hV2 hw3 hwk hV hK
  have HCB : Hid (Chg No w3 w3) := Chg.refl No w3
  go_wp2_with fail
  refine (bldT w3 #[.slice (some ⟨KB, 0, none⟩) 129 129, .slice none 0 0, .int .i64 0, .bool false] [⟨((some ⟨KB, 0, none⟩), 129, List.replicate 129 0), (none, 0, []), 0, false⟩] 1 71 rfl rfl (by omega) (by intro e he; simp only [List.mem_cons, List.not_mem_nil, or_false] at he; rcases he with rfl <;> exact ⟨HK.out, Rd.nil _ _⟩) (by intro e he; simp only [List.mem_cons, List.not_mem_nil, or_false] at he; rcases he with rfl <;> exact capN _ _ _ _ _ _ _ _ (by first | (rw [List.length_replicate]; omega) | exact Nat.zero_le _) (by omega) (by first | (rw [List.length_replicate]; omega) | exact Nat.zero_le _) (by omega)) (by intro e he; simp only [List.mem_cons, List.not_mem_nil, or_false] at he; rcases he with rfl <;> exact smN _ _ _ _ _ _ _ _ (by first | (rw [List.length_replicate]; omega) | exact Nat.zero_le _) (by first | (rw [List.length_replicate]; omega) | exact Nat.zero_le _) (by omega)) end_k129).mono ?_
  rintro x w4 ⟨A_w4, m_w4, c_w4, rfl, q1⟩
  have HC_w4 := Lib.hid (HCB.out.tr q1)
  clear q1 HCB
  have HCB := HC_w4
  go_upto_region 6 with fail
  refine wp_region_held_drew (S := fun _ => True) (by kernel_rfl) trivial ?_
  intro hS0
  refine rgn_take (i := 0) (v := ?rv1) rfl (by kernel_rfl) (by kernel_rfl) (by kernel_rfl) (fun _ _ _ h => h) (by rfl) ?rh1 (by assumption) ?rr1
  case rh1 => (intro w hSw; (try dsimp only at hSw); go_simp; try with_reducible rfl)
  simp only [Act.put, List.setIfInBounds_toArray, List.set_cons_zero, List.set_cons_succ]
  refine rgn_take (i := 1) (v := ?rv2) rfl (by kernel_rfl) (by kernel_rfl) (by kernel_rfl) (fun _ _ _ h => h) (by rfl) ?rh2 (by assumption) ?rr2
  case rh2 => (intro w hSw; (try dsimp only at hSw); go_simp; try with_reducible rfl)
  simp only [Act.put, List.setIfInBounds_toArray, List.set_cons_zero, List.set_cons_succ]
  refine rgn_take (i := 2) (v := ?rv3) rfl (by kernel_rfl) (by kernel_rfl) (by kernel_rfl) (fun _ _ _ h => h) (by rfl) ?rh3 (by assumption) ?rr3
  case rh3 => (intro w hSw; (try dsimp only at hSw); go_simp; try with_reducible rfl)
  simp only [Act.put, List.setIfInBounds_toArray, List.set_cons_zero, List.set_cons_succ]
  refine rgn_take (i := 3) (v := ?rv4) rfl (by kernel_rfl) (by kernel_rfl) (by kernel_rfl) (fun _ _ _ h => h) (by rfl) ?rh4 (by assumption) ?rr4
  case rh4 => (intro w hSw; (try dsimp only at hSw); go_simp; try with_reducible rfl)
  simp only [Act.put, List.setIfInBounds_toArray, List.set_cons_zero, List.set_cons_succ]
  refine rgn_take (i := 4) (v := ?rv5) rfl (by kernel_rfl) (by kernel_rfl) (by kernel_rfl) (fun _ _ _ h => h) (by rfl) ?rh5 (by assumption) ?rr5
  case rh5 => (intro w hSw; (try dsimp only at hSw); go_simp; try with_reducible rfl)
  simp only [Act.put, List.setIfInBounds_toArray, List.set_cons_zero, List.set_cons_succ]
  refine rgn_call (i := 5) rfl (by kernel_rfl) (fun K hK => ?_)
  go_simp
  refine hK.out _ _ trivial (fun hS0 => ?_)
  clear hK K
  refine rgn_call (i := 6) rfl (by kernel_rfl) (fun K hK => ?_)
  go_simp
  go_at_call 14; refine (bldT w4.drew #[.slice (some ⟨KB, 0, none⟩) 128 129, .slice (some ⟨V, 0, none⟩) 16384 16385, .int .i64 0, .bool false] [⟨((some ⟨KB, 0, none⟩), 129, List.replicate 128 0), ((some ⟨V, 0, none⟩), 16385, List.replicate 16384 0), 0, false⟩] 1 0 rfl rfl (by omega) (by intro e he; simp only [List.mem_cons, List.not_mem_nil, or_false] at he; rcases he with rfl <;> exact ⟨(by have h := HK.out.take 128; rw [List.take_replicate] at h; exact h.new HCB.out.drew), (by have h := HV.out.take 16384; rw [List.take_replicate] at h; exact h.new HCB.out.drew)⟩) (by intro e he; simp only [List.mem_cons, List.not_mem_nil, or_false] at he; rcases he with rfl <;> exact capN _ _ _ _ _ _ _ _ (by first | (rw [List.length_replicate]; omega) | exact Nat.zero_le _) (by omega) (by first | (rw [List.length_replicate]; omega) | exact Nat.zero_le _) (by omega)) (by intro e he; simp only [List.mem_cons, List.not_mem_nil, or_false] at he; rcases he with rfl <;> exact smN _ _ _ _ _ _ _ _ (by first | (rw [List.length_replicate]; omega) | exact Nat.zero_le _) (by first | (rw [List.length_replicate]; omega) | exact Nat.zero_le _) (by omega)) end_ok).mono ?_; rintro x w5 ⟨A_w5, m_w5, c_w5, rfl, q1⟩; have HC_w5 := Lib.hid (HCB.out.drew.tr q1); clear q1 HCB; have HCB := HC_w5
  refine hK.out _ _ trivial (fun hS0 => ?_)
  clear hK K
  refine rgn_take (i := 7) (v := ?rv8) rfl (by kernel_rfl) (by kernel_rfl) (by kernel_rfl) (fun _ _ _ h => h) (by rfl) ?rh8 (by assumption) ?rr8
  case rh8 => (intro w hSw; (try dsimp only at hSw); go_simp; try with_reducible rfl)
  simp only [Act.put, List.setIfInBounds_toArray, List.set_cons_zero, List.set_cons_succ]
  refine rgn_take (i := 8) (v := ?rv9) rfl (by kernel_rfl) (by kernel_rfl) (by kernel_rfl) (fun _ _ _ h => h) (by rfl) ?rh9 (by assumption) ?rr9
  case rh9 => (intro w hSw; (try dsimp only at hSw); go_simp; try with_reducible rfl)
  simp only [Act.put, List.setIfInBounds_toArray, List.set_cons_zero, List.set_cons_succ]
  refine rgn_take (i := 9) (v := ?rv10) rfl (by kernel_rfl) (by kernel_rfl) (by kernel_rfl) (fun _ _ _ h => h) (by rfl) ?rh10 (by assumption) ?rr10
  case rh10 => (intro w hSw; (try dsimp only at hSw); go_simp; try with_reducible rfl)
  simp only [Act.put, List.setIfInBounds_toArray, List.set_cons_zero, List.set_cons_succ]
  refine rgn_take (i := 10) (v := ?rv11) rfl (by kernel_rfl) (by kernel_rfl) (by kernel_rfl) (fun _ _ _ h => h) (by rfl) ?rh11 (by assumption) ?rr11
  case rh11 => (intro w hSw; (try dsimp only at hSw); go_simp; try with_reducible rfl)
  simp only [Act.put, List.setIfInBounds_toArray, List.set_cons_zero, List.set_cons_succ]
  refine rgn_take (i := 11) (v := ?rv12) rfl (by kernel_rfl) (by kernel_rfl) (by kernel_rfl) (fun _ _ _ h => h) (by rfl) ?rh12 (by assumption) ?rr12
  case rh12 => (intro w hSw; (try dsimp only at hSw); go_simp; try with_reducible rfl)
  simp only [Act.put, List.setIfInBounds_toArray, List.set_cons_zero, List.set_cons_succ]
  refine wpAnyH_done (by kernel_rfl) ?_ _
  go_wp2_with fail
  refine (bldT w5 #[.slice none 0 0, .slice (some ⟨V, 0, none⟩) 16385 16385, .int .i64 0, .bool false] [⟨(none, 0, []), ((some ⟨V, 0, none⟩), 16385, List.replicate 16385 0), 0, false⟩] 1 71 rfl rfl (by omega) (by intro e he; simp only [List.mem_cons, List.not_mem_nil, or_false] at he; rcases he with rfl <;> exact ⟨Rd.nil _ _, HV.out.new HCB.out⟩) (by intro e he; simp only [List.mem_cons, List.not_mem_nil, or_false] at he; rcases he with rfl <;> exact capN _ _ _ _ _ _ _ _ (by first | (rw [List.length_replicate]; omega) | exact Nat.zero_le _) (by omega) (by first | (rw [List.length_replicate]; omega) | exact Nat.zero_le _) (by omega)) (by intro e he; simp only [List.mem_cons, List.not_mem_nil, or_false] at he; rcases he with rfl <;> exact smN _ _ _ _ _ _ _ _ (by first | (rw [List.length_replicate]; omega) | exact Nat.zero_le _) (by first | (rw [List.length_replicate]; omega) | exact Nat.zero_le _) (by omega)) end_v16385).mono ?_
  rintro x w6 ⟨A_w6, m_w6, c_w6, rfl, q1⟩
  have HC_w6 := Lib.hid (HCB.out.tr q1)
  clear q1 HCB
  have HCB := HC_w6
  go_wp2_with fail
  refine (bldT w6 #[.slice none 0 0, .slice (some ⟨V, 0, none⟩) 1 16385, .int .i64 0, .bool true] [⟨(none, 0, []), ((some ⟨V, 0, none⟩), 16385, List.replicate 1 0), 0, true⟩] 1 71 rfl rfl (by omega) (by intro e he; simp only [List.mem_cons, List.not_mem_nil, or_false] at he; rcases he with rfl <;> exact ⟨Rd.nil _ _, (by have h := HV.out.take 1; rw [List.take_replicate] at h; exact h.new HCB.out)⟩) (by intro e he; simp only [List.mem_cons, List.not_mem_nil, or_false] at he; rcases he with rfl <;> exact capN _ _ _ _ _ _ _ _ (by first | (rw [List.length_replicate]; omega) | exact Nat.zero_le _) (by omega) (by first | (rw [List.length_replicate]; omega) | exact Nat.zero_le _) (by omega)) (by intro e he; simp only [List.mem_cons, List.not_mem_nil, or_false] at he; rcases he with rfl <;> exact smN _ _ _ _ _ _ _ _ (by first | (rw [List.length_replicate]; omega) | exact Nat.zero_le _) (by first | (rw [List.length_replicate]; omega) | exact Nat.zero_le _) (by omega)) end_dead).mono ?_
  rintro x w7 ⟨A_w7, m_w7, c_w7, rfl, q1⟩
  have HC_w7 := Lib.hid (HCB.out.tr q1)
  clear q1 HCB
  have HCB := HC_w7
  go_wp2_with fail
  refine (bldT w7 #[.slice none 0 0, .slice none 0 0, .int .i64 (-1), .bool false] [⟨(none, 0, []), (none, 0, []), -1, false⟩] 1 71 rfl rfl (by omega) (by intro e he; simp only [List.mem_cons, List.not_mem_nil, or_false] at he; rcases he with rfl <;> exact ⟨Rd.nil _ _, Rd.nil _ _⟩) (by intro e he; simp only [List.mem_cons, List.not_mem_nil, or_false] at he; rcases he with rfl <;> exact capN _ _ _ _ _ _ _ _ (by first | (rw [List.length_replicate]; omega) | exact Nat.zero_le _) (by omega) (by first | (rw [List.length_replicate]; omega) | exact Nat.zero_le _) (by omega)) (by intro e he; simp only [List.mem_cons, List.not_mem_nil, or_false] at he; rcases he with rfl <;> exact smN _ _ _ _ _ _ _ _ (by first | (rw [List.length_replicate]; omega) | exact Nat.zero_le _) (by first | (rw [List.length_replicate]; omega) | exact Nat.zero_le _) (by omega)) end_neg).mono ?_
  rintro x w8 ⟨A_w8, m_w8, c_w8, rfl, q1⟩
  have HC_w8 := Lib.hid (HCB.out.tr q1)
  clear q1 HCB
  have HCB := HC_w8
  go_wp2_with fail
  refine (bldT w8 #[.slice none 0 0, .slice none 0 0, .int .i64 1, .bool false, .slice none 0 0, .slice none 0 0, .int .i64 2, .bool false] [⟨(none, 0, []), (none, 0, []), 1, false⟩, ⟨(none, 0, []), (none, 0, []), 2, false⟩] 2 70 rfl rfl (by omega) (by intro e he; simp only [List.mem_cons, List.not_mem_nil, or_false] at he; rcases he with rfl | rfl <;> exact ⟨Rd.nil _ _, Rd.nil _ _⟩) (by intro e he; simp only [List.mem_cons, List.not_mem_nil, or_false] at he; rcases he with rfl | rfl <;> exact capN _ _ _ _ _ _ _ _ (by first | (rw [List.length_replicate]; omega) | exact Nat.zero_le _) (by omega) (by first | (rw [List.length_replicate]; omega) | exact Nat.zero_le _) (by omega)) (by intro e he; simp only [List.mem_cons, List.not_mem_nil, or_false] at he; rcases he with rfl | rfl <;> exact smN _ _ _ _ _ _ _ _ (by first | (rw [List.length_replicate]; omega) | exact Nat.zero_le _) (by first | (rw [List.length_replicate]; omega) | exact Nat.zero_le _) (by omega)) end_12).mono ?_
  rintro x w9 ⟨A_w9, m_w9, c_w9, rfl, q1⟩
  have HC_w9 := Lib.hid (HCB.out.tr q1)
  clear q1 HCB
  have HCB := HC_w9
  go_wp2_with fail
  refine (bldT w9 #[.slice none 0 0, .slice none 0 0, .int .i64 2, .bool false, .slice none 0 0, .slice none 0 0, .int .i64 2, .bool false] [⟨(none, 0, []), (none, 0, []), 2, false⟩, ⟨(none, 0, []), (none, 0, []), 2, false⟩] 2 70 rfl rfl (by omega) (by intro e he; simp only [List.mem_cons, List.not_mem_nil, or_false] at he; rcases he with rfl | rfl <;> exact ⟨Rd.nil _ _, Rd.nil _ _⟩) (by intro e he; simp only [List.mem_cons, List.not_mem_nil, or_false] at he; rcases he with rfl | rfl <;> exact capN _ _ _ _ _ _ _ _ (by first | (rw [List.length_replicate]; omega) | exact Nat.zero_le _) (by omega) (by first | (rw [List.length_replicate]; omega) | exact Nat.zero_le _) (by omega)) (by intro e he; simp only [List.mem_cons, List.not_mem_nil, or_false] at he; rcases he with rfl | rfl <;> exact smN _ _ _ _ _ _ _ _ (by first | (rw [List.length_replicate]; omega) | exact Nat.zero_le _) (by first | (rw [List.length_replicate]; omega) | exact Nat.zero_le _) (by omega)) end_22).mono ?_
  rintro x w10 ⟨A_w10, m_w10, c_w10, rfl, q1⟩
  have HC_w10 := Lib.hid (HCB.out.tr q1)
  clear q1 HCB
  have HCB := HC_w10
  go_wp2_with fail
  refine (bldT w10 #[.slice none 0 0, .slice none 0 0, .int .i64 2, .bool false, .slice none 0 0, .slice none 0 0, .int .i64 1, .bool false] [⟨(none, 0, []), (none, 0, []), 2, false⟩, ⟨(none, 0, []), (none, 0, []), 1, false⟩] 2 0 rfl rfl (by omega) (by intro e he; simp only [List.mem_cons, List.not_mem_nil, or_false] at he; rcases he with rfl | rfl <;> exact ⟨Rd.nil _ _, Rd.nil _ _⟩) (by intro e he; simp only [List.mem_cons, List.not_mem_nil, or_false] at he; rcases he with rfl | rfl <;> exact capN _ _ _ _ _ _ _ _ (by first | (rw [List.length_replicate]; omega) | exact Nat.zero_le _) (by omega) (by first | (rw [List.length_replicate]; omega) | exact Nat.zero_le _) (by omega)) (by intro e he; simp only [List.mem_cons, List.not_mem_nil, or_false] at he; rcases he with rfl | rfl <;> exact smN _ _ _ _ _ _ _ _ (by first | (rw [List.length_replicate]; omega) | exact Nat.zero_le _) (by first | (rw [List.length_replicate]; omega) | exact Nat.zero_le _) (by omega)) end_21).mono ?_
  rintro x w11 ⟨A_w11, m_w11, c_w11, rfl, q1⟩
  have HC_w11 := Lib.hid (HCB.out.tr q1)
  clear q1 HCB
  have HCB := HC_w11
  go_wp2_with (first
    | (go_at_call 28; (with_reducible refine (tnum_any _ _).mono ?_); rintro e wx ⟨rfl, rfl⟩)
    | (go_at_call 30; (with_reducible refine (wakes7_any w11).mono ?_); rintro y w12 ⟨rfl, q1⟩; have HC12 := Lib.hid (HC3.out.tr (HCB.out.tr q1)); clear q1))
  go_ret
  exact ⟨rfl, HC12.out⟩
end Go.Proofs.Ytaoenbjfkahdjaa
