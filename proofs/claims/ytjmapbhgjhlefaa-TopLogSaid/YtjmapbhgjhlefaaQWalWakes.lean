/- tidingslaw04.wakes answers true. -/
import Derived.Test.YtjmapbhgjhlefaaQWalSplit
import Derived.Test.YtjmapbhgjhlefaaQWalWhole
namespace Go.Proofs.Ytjmapbhgjhlefaa
open Go.RowKit
set_option linter.unusedVariables false
set_option maxRecDepth 100000

/-- Split's answer, as what reads. -/
theorem splitd_rdl {b : List UInt8} {w w' : World} {e : Ending} (h : Splitd b w e w') : ∃ A c rs, e = .returned (.slice A rs.length c) ∧ txt rs = split b ∧ RdL w' A rs ∧ (∀ k ∈ rs, k.2.2.length ≤ k.2.1 ∧ k.2.1 ≤ maxLen) ∧ rs.length ≤ c ∧ c ≤ maxLen ∧ Chg No w w' ∧ OwnL w.heap.size w' rs := by
  obtain ⟨v, rs, rfl, h1, h2, h3⟩ := h
  obtain ⟨A, c, rfl, k1, k2, k3, _⟩ := h2.rdl
  exact ⟨A, c, rs, rfl, h1, k1, h2.each.caps, k2, k3, h3, h2.each⟩
theorem wholed_rdl {fs : List (List UInt8)} {w w' : World} {e : Ending} (h : Wholed fs w e w') : ∃ A c rs, e = .returned (.slice A rs.length c) ∧ txt rs = whole fs ∧ RdL w' A rs ∧ Chg No w w' := by
  obtain ⟨v, rs, rfl, h1, h2, h3⟩ := h
  obtain ⟨A, c, rfl, k1, k2, k3, _⟩ := h2.rdl
  exact ⟨A, c, rs, rfl, h1, k1, h3⟩
theorem whole_split (b : List UInt8) (hb : b.length ≤ 262144) : whole (split b) = [b] := by
  have := wholeFrom_split b hb none []
  rw [List.append_nil, wholeFrom_nil] at this
  exact this
theorem split_flat (b : List UInt8) (hb : b.length ≤ 262144) : (split b).flatten.length ≤ 263040 := by
  have h : ∀ (l : List Nat), (l.map (frame b)).flatten.length ≤ l.length * 480 := by
    intro l
    induction l with
    | nil => simp
    | cons i l ih =>
      have hp : (frame b i).length ≤ 480 := by
        show (flagOf i _ :: piece b i).length ≤ 480
        rw [List.length_cons, piece_len]
        have : (i + 1) * 479 = i * 479 + 479 := Nat.succ_mul i 479
        omega
      rw [List.map_cons, List.flatten_cons, List.length_append, List.length_cons]
      have : (l.length + 1) * 480 = l.length * 480 + 480 := Nat.succ_mul _ _
      omega
  have h1 := h (List.range (needN b.length))
  rw [List.length_range] at h1
  have h2 := Nat.mul_le_mul_right 480 (needN_le b.length)
  unfold split
  omega
theorem rows_one {rs : Rows_} {b : List UInt8} (h : txt rs = [b]) : ∃ A c, rs = [(A, c, b)] := by
  rcases rs with _ | ⟨⟨A, c, l⟩, rs⟩
  · simp [txt] at h
  · simp [txt] at h
    obtain ⟨rfl, h⟩ := h
    subst h
    exact ⟨A, c, rfl⟩
theorem rows_two {rs : Rows_} {a b : List UInt8} (h : txt rs = [a, b]) : ∃ A c A' c', rs = [(A, c, a), (A', c', b)] := by
  rcases rs with _ | ⟨⟨A, c, l⟩, rs⟩
  · simp [txt] at h
  · have h' : l :: txt rs = [a, b] := h
    injection h' with h1 h2
    subst h1
    obtain ⟨A', c', rfl⟩ := rows_one h2
    exact ⟨A, c, A', c', rfl⟩
theorem split_480 : ∃ a b, split (long 480 3) = [a, b] ∧ a.length = 480 := by
  refine ⟨frame (long 480 3) 0, frame (long 480 3) 1, ?_, ?_⟩
  · have : needN (long 480 3).length = 2 := by rw [length_long]; decide
    unfold split
    rw [this]
    rfl
  · show (flagOf 0 _ :: piece _ 0).length = 480
    rw [List.length_cons, piece_len, length_long]
    decide

set_option maxHeartbeats 1000000 in
theorem wakes_any (w : World) : Calls Try.prog 51 #[] w (Asked true w) := by
  have HLong : Hid (∀ W, Calls Try.prog 48 #[.int .i64 480, .int .i64 3] W (Longed (long 480 3) W)) := fun W => long_any 480 3 W (by omega)
  obtain ⟨fa, fb, hs, hfa⟩ := split_480
  have HW := Lib.hid (whole_split (long 480 3) (by rw [length_long]; omega))
  have HF := Lib.hid (split_flat (long 480 3) (by rw [length_long]; omega))
  have HSl := Lib.hid hs
  have HFa := Lib.hid hfa
  have HLen := Lib.hid (length_long 480 3)
  have HNeed : Hid (∀ W, Calls Try.prog 50 #[.int .i64 480] W fun e w' => e = .returned (.int .i64 2) ∧ W = w') := fun W => by
    have := need_any 480 W (by omega)
    have e : needI 480 = 2 := by decide
    rwa [e] at this
  clear hs hfa
  generalize long 480 3 = b at *
  go_enter Try.func51, Try.ntmps51
  go_wp2_with fail
  refine (HLong.out w).mono ?_
  intro e w1 h1
  obtain ⟨A1, c1, rfl, r1, k1⟩ : ∃ A c, e = .returned (.slice A b.length c) ∧ (Rd w1 A b ∧ b.length ≤ c ∧ c ≤ 9223372036854775807) ∧ Chg No w w1 := by
    obtain ⟨g, rfl, _, h2, h3⟩ := h1
    exact ⟨_, _, rfl, ⟨RdV.of_at h2 fun j hj => by simp at hj; simp [hj], Nat.le_refl _, by have := HLen.out; omega⟩, h3⟩
  have R1 := Lib.hid r1
  have K1 := Lib.hid k1
  clear h1 r1 k1
  go_wp2_with fail
  refine (split_any A1 c1 b w1 R1.out.1 R1.out.2.1 R1.out.2.2 (by have := HLen.out; omega)).mono ?_
  intro e w2 h2
  obtain ⟨A2, c2, rs, rfl, t2, r2, q2, _, _, k2, _⟩ := splitd_rdl h2
  rw [HSl.out] at t2
  obtain ⟨Aa, ca, Ab, cb, rfl⟩ := rows_two t2
  have R2 := Lib.hid r2
  have Q2 := Lib.hid q2
  have K2 := Lib.hid (K1.out.tr k2)
  clear h2 t2 r2 q2 k2
  go_wp2_with fail
  refine (whole_any A2 c2 [(Aa, ca, fa), (Ab, cb, fb)] w2 R2.out Q2.out (by have h := HF.out; rw [HSl.out] at h; exact Nat.le_trans h (by omega)) (by simp)).mono ?_
  intro e w3 h3
  obtain ⟨A3, c3, rs, rfl, t3, r3, k3⟩ := wholed_rdl h3
  have t3' : txt rs = [b] := by rw [t3, ← HW.out, HSl.out]; rfl
  obtain ⟨A4, c4, rfl⟩ := rows_one t3'
  obtain ⟨⟨x3, o3, rfl, hx3⟩, hr3⟩ := r3.get (j := 0) (by simp)
  obtain ⟨⟨x2, o2, rfl, hx2⟩, _⟩ := (R2.out.new k3).get (j := 0) (by simp)
  simp only [Nat.add_zero, List.getElem_cons_zero] at hx3 hx2 hr3
  have R3 := Lib.hid hr3
  have K3 := Lib.hid (K2.out.tr k3)
  clear h3 t3 t3' r3 k3 hr3
  have hfa := HFa.out
  have X3 := Lib.hid hx3
  have X2 := Lib.hid hx2
  go_wp2_with fail
  go_region_held3 (fun w' => w'.cell? ⟨x3, o3, none⟩ = some (.slice A4 b.length c4) ∧ w'.cell? ⟨x2, o2, none⟩ = some (.slice Aa fa.length ca)) (first | exact q4 | go_keep)
    (first
      | (go_at_call 48; refine (HLong.out _).mono ?_; rintro e w4 ⟨g4, rfl, g1, g2, g3⟩; have q4 := And.intro (g3.cell X3.out id) (g3.cell X2.out id))
      | (go_at_call 31; refine (same_any _ _ _ _ b b _ (by exact Rd.new (w := w3.drew) R3.out g3) (by exact RdV.of_at g2 fun j hj => by simp at hj; simp [hj])).mono ?_; rintro e w5 ⟨rfl, rfl⟩)
      | (go_at_call 50; refine (HNeed.out _).mono ?_; rintro e w5 ⟨rfl, rfl⟩))
  go_wp2_with fail
  go_ret
  exact ⟨rfl, (K3.out.drew).tr g3⟩

end Go.Proofs.Ytjmapbhgjhlefaa
