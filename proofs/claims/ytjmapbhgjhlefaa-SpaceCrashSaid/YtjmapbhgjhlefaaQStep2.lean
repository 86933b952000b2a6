/- A step is cut short. -/
import Derived.Test.YtjmapbhgjhlefaaQ01
import Derived.Test.YtjmapbhgjhlefaaQStep
import Derived.Test.YtjmapbhgjhlefaaQLend
namespace Go.Proofs.Ytjmapbhgjhlefaa
open Go.RowKit
set_option linter.unusedVariables false
set_option maxRecDepth 100000

def cutSt (x : StD) : StD := { x with add := (x.add.1, x.add.2.1, x.add.2.2.take 30), drop := (x.drop.1, x.drop.2.1, x.drop.2.2.take 30), bytes := (x.bytes.1, x.bytes.2.1, x.bytes.2.2.take 600) }
def stA (x : StD) : Value := .agg (stV x).toArray
theorem fis_take (l : List Fi) (n : Nat) : (l.take n).flatMap fiI = (l.flatMap fiI).take (n * 3) := by
  induction l generalizing n with
  | nil => simp
  | cons e l ih =>
    cases n with
    | zero => simp
    | succ n =>
      rw [List.take_succ_cons, List.flatMap_cons, List.flatMap_cons, ih, List.take_append]
      have : (fiI e).length = 3 := rfl
      rw [this, List.take_of_length_le (l := fiI e) (by omega), show (n + 1) * 3 - 3 = n * 3 by omega]
theorem cutSt_in {w : World} {x : StD} (h : StIn w x) : StIn w (cutSt x) ∧ (cutSt x).add.2.2.length ≤ 30 ∧ (cutSt x).drop.2.2.length ≤ 30 ∧ (cutSt x).bytes.2.2.length ≤ 600 := by
  obtain ⟨a1, a2, a3, a4, a5⟩ := h.add
  obtain ⟨b1, b2, b3, b4, b5⟩ := h.drop
  obtain ⟨c1, c2, c3, c4⟩ := h.bytes
  refine ⟨⟨h.did, h.n, h.k, ⟨?_, ?_, a3, ?_, fun f hf => a5 f (List.mem_of_mem_take hf)⟩, ⟨?_, ?_, b3, ?_, fun f hf => b5 f (List.mem_of_mem_take hf)⟩, ⟨c1.take 600, ?_, c3, ?_⟩, h.keep, h.torn, h.cut⟩, ?_, ?_, ?_⟩
  · show RdV w x.add.1 ((x.add.2.2.take 30).flatMap fiI)
    rw [fis_take]
    exact a1.take _
  · show (x.add.2.2.take 30).length ≤ _; rw [List.length_take]; show _ ≤ x.add.2.1; omega
  · show (x.add.2.2.take 30).length ≤ _; rw [List.length_take]; omega
  · show RdV w x.drop.1 ((x.drop.2.2.take 30).map _)
    rw [List.map_take]
    exact b1.take _
  · show (x.drop.2.2.take 30).length ≤ _; rw [List.length_take]; show _ ≤ x.drop.2.1; omega
  · show (x.drop.2.2.take 30).length ≤ _; rw [List.length_take]; omega
  · show (x.bytes.2.2.take 600).length ≤ _; rw [List.length_take]; show _ ≤ x.bytes.2.1; omega
  · show (x.bytes.2.2.take 600).length ≤ _; rw [List.length_take]; omega
  · show (x.add.2.2.take 30).length ≤ _; rw [List.length_take]; omega
  · show (x.drop.2.2.take 30).length ≤ _; rw [List.length_take]; omega
  · show (x.bytes.2.2.take 600).length ≤ _; rw [List.length_take]; omega
set_option maxHeartbeats 2000000 in
theorem scut_any (x : StD) (w : World) (hx : StIn w x) :
    Calls Try.prog 34 #[stA x] w fun e w' => e = .returned (stA (cutSt x)) ∧ Chg No w w' := by
  obtain ⟨_, a2, a3, _, _⟩ := hx.add
  obtain ⟨_, b2, b3, _⟩ := hx.drop
  obtain ⟨_, c2, c3, c4⟩ := hx.bytes
  obtain ⟨q, qn, qk, ⟨aA, ac, al⟩, ⟨dA, dc, dl⟩, ⟨bA, bc, bl⟩, ⟨kA, kc, kl⟩, qt, qc⟩ := x
  simp only at a2 a3 b2 b3 c2 c3 c4
  clear hx
  obtain ⟨an, han⟩ : ∃ n, n = (al.take 30).length := ⟨_, rfl⟩
  obtain ⟨dn, hdn⟩ : ∃ n, n = (dl.take 30).length := ⟨_, rfl⟩
  obtain ⟨bn, hbn⟩ : ∃ n, n = (bl.take 600).length := ⟨_, rfl⟩
  have HQ : Hid (stA (cutSt ⟨q, qn, qk, (aA, ac, al), (dA, dc, dl), (bA, bc, bl), (kA, kc, kl), qt, qc⟩) = .agg #[.int .i64 q, .int .i64 qn, .int .i64 qk, .slice aA an ac, .slice dA dn dc, .slice bA bn bc, .slice kA kl.length kc, .int .i64 qt, .int .i64 qc]) := by rw [han, hdn, hbn]; rfl
  rw [List.length_take] at han hdn
  unfold maxLen at c3
  have HCu : Hid (∀ W, Calls Try.prog 73 #[.slice bA bl.length bc, .int .i64 600] W fun e w' => e = .returned (.slice bA bn bc) ∧ W = w') := fun W => by rw [hbn]; exact kcut_any bA bc bl 600 W c2 (by omega) (by omega)
  clear hbn
  have h := Sat.start w
  have h1 := h.allocAt (b := w.heap.size) 67 #[.int .i64 q, .int .i64 qn, .int .i64 qk, .slice aA al.length ac, .slice dA dl.length dc, .slice bA bl.length bc, .slice kA kl.length kc, .int .i64 qt, .int .i64 qc] rfl
  have h2 := h1.allocAt (b := w.heap.size + 1) 67 #[.int .i64 0, .int .i64 0, .int .i64 0, .slice none 0 0, .slice none 0 0, .slice none 0 0, .slice none 0 0, .int .i64 0, .int .i64 0] (by simp)
  clear h h1
  unfold stA stV
  simp only
  go_enter Try.func34, Try.ntmps34
  go_upto_region 1 with fail
  revert h2
  generalize (w.alloc _).alloc _ = W
  intro h2
  generalize w.heap.size + 1 = B at *
  generalize w.heap.size = E at *
  have hs := h2.up2
  clear h2
  have c0 := hs.cell 0; have d0 := hs.up2.frozen 0
  have c1 := hs.cell 1; have d1 := hs.up2.frozen 1
  have c2 := hs.cell 2; have d2 := hs.up2.frozen 2
  have c3 := hs.cell 3; have d3 := hs.up2.frozen 3
  have c4 := hs.cell 4; have d4 := hs.up2.frozen 4
  have c5 := hs.cell 5; have d5 := hs.up2.frozen 5
  have c6 := hs.cell 6; have d6 := hs.up2.frozen 6
  have c7 := hs.cell 7; have d7 := hs.up2.frozen 7
  have c8 := hs.cell 8; have d8 := hs.up2.frozen 8
  simp only [List.getElem?_toArray, List.getElem?_cons_zero, List.getElem?_cons_succ] at c0 c1 c2 c3 c4 c5 c6 c7 c8
  have f3 := hs.frozen 3; have f4 := hs.frozen 4; have f5 := hs.frozen 5
  have HS := Lib.hid hs
  clear hs
  by_cases h3 : 30 < al.length
  · have h3' : (30 : Int) < al.length := by omega
    have h3c : (30 : Int) ≤ ac := by omega
    have e3 : an = 30 := by omega
    by_cases h4 : 30 < dl.length
    · have h4' : (30 : Int) < dl.length := by omega
      have h4c : (30 : Int) ≤ dc := by omega
      have e4 : dn = 30 := by omega
      have HE3 := Lib.hid e3; have HE4 := Lib.hid e4
      clear e3 e4 han hdn
      have h5 := (((HS.out.set 3 (.slice aA 30 ac)).set 4 (.slice dA 30 dc)).set 5 (.slice bA bn bc))
      simp only [List.setIfInBounds_toArray, List.set_cons_zero, List.set_cons_succ] at h5
      have HS5 := Lib.hid h5
      clear h5
      go_upto_region 6 with (go_at_call 73; (with_reducible refine (HCu.out _).mono ?_); rintro e wx ⟨rfl, rfl⟩)
      clear c0 d0 c1 d1 c2 d2 c3 d3 c4 d4 c5 d5 c6 d6 c7 d7 c8 d8 f3 f4 f5
      have h5 := HS5.out
      revert h5
      generalize World.setCell _ _ _ = w3
      intro h5
      have c0 : w3.cell? ⟨E, 0, none⟩ = some (.int .i64 q) := h5.cell 0
      have d0 := h5.up2.frozen 0
      have c1 : w3.cell? ⟨E, 1, none⟩ = some (.int .i64 qn) := h5.cell 1
      have d1 := h5.up2.frozen 1
      have c2 : w3.cell? ⟨E, 2, none⟩ = some (.int .i64 qk) := h5.cell 2
      have d2 := h5.up2.frozen 2
      have c3 : w3.cell? ⟨E, 3, none⟩ = some (.slice aA 30 ac) := h5.cell 3
      have d3 := h5.up2.frozen 3
      have c4 : w3.cell? ⟨E, 4, none⟩ = some (.slice dA 30 dc) := h5.cell 4
      have d4 := h5.up2.frozen 4
      have c5 : w3.cell? ⟨E, 5, none⟩ = some (.slice bA bn bc) := h5.cell 5
      have d5 := h5.up2.frozen 5
      have c6 : w3.cell? ⟨E, 6, none⟩ = some (.slice kA kl.length kc) := h5.cell 6
      have d6 := h5.up2.frozen 6
      have c7 : w3.cell? ⟨E, 7, none⟩ = some (.int .i64 qt) := h5.cell 7
      have d7 := h5.up2.frozen 7
      have c8 : w3.cell? ⟨E, 8, none⟩ = some (.int .i64 qc) := h5.cell 8
      have d8 := h5.up2.frozen 8
      have g0 : w3.cell? ⟨B, 0, none⟩ = some (.int .i64 0) := h5.up2.cell 0
      have g1 : w3.cell? ⟨B, 1, none⟩ = some (.int .i64 0) := h5.up2.cell 1
      have g2 : w3.cell? ⟨B, 2, none⟩ = some (.int .i64 0) := h5.up2.cell 2
      have g3 : w3.cell? ⟨B, 3, none⟩ = some (.slice none 0 0) := h5.up2.cell 3
      have g4 : w3.cell? ⟨B, 4, none⟩ = some (.slice none 0 0) := h5.up2.cell 4
      have g5 : w3.cell? ⟨B, 5, none⟩ = some (.slice none 0 0) := h5.up2.cell 5
      have g6 : w3.cell? ⟨B, 6, none⟩ = some (.slice none 0 0) := h5.up2.cell 6
      have g7 : w3.cell? ⟨B, 7, none⟩ = some (.int .i64 0) := h5.up2.cell 7
      have g8 : w3.cell? ⟨B, 8, none⟩ = some (.int .i64 0) := h5.up2.cell 8
      have h6 := (((((((((h5.up2.set 0 (.int .i64 q)).set 1 (.int .i64 qn)).set 2 (.int .i64 qk)).set 3 (.slice aA 30 ac)).set 4 (.slice dA 30 dc)).set 5 (.slice bA bn bc)).set 6 (.slice kA kl.length kc)).set 7 (.int .i64 qt)).set 8 (.int .i64 qc))
      simp only [List.setIfInBounds_toArray, List.set_cons_zero, List.set_cons_succ] at h6
      have HS6 := Lib.hid h6
      clear h6
      clear h5
      go_wp2_with fail
      have h6 := HS6.out
      revert h6
      generalize World.setCell _ _ _ = w4
      intro h6
      refine bodyPost_ret (results_cell_row (p := 2) (by kernel_rfl) _ _ B 67 _ (0, 0) _ rfl h6.at Try.underlying67 rfl (by kernel_rfl)) rfl ?_
      have h7 := HQ.out
      rw [HE3.out, HE4.out] at h7
      exact ⟨congrArg Ending.returned h7.symm, h6.chg⟩
    · have h4' : ¬ (30 : Int) < dl.length := by omega
      have e4 : dn = dl.length := by omega
      have HE3 := Lib.hid e3; have HE4 := Lib.hid e4
      clear e3 e4 han hdn
      have h5 := ((HS.out.set 3 (.slice aA 30 ac)).set 5 (.slice bA bn bc))
      simp only [List.setIfInBounds_toArray, List.set_cons_zero, List.set_cons_succ] at h5
      have HS5 := Lib.hid h5
      clear h5
      go_upto_region 6 with (go_at_call 73; (with_reducible refine (HCu.out _).mono ?_); rintro e wx ⟨rfl, rfl⟩)
      clear c0 d0 c1 d1 c2 d2 c3 d3 c4 d4 c5 d5 c6 d6 c7 d7 c8 d8 f3 f4 f5
      have h5 := HS5.out
      revert h5
      generalize World.setCell _ _ _ = w3
      intro h5
      have c0 : w3.cell? ⟨E, 0, none⟩ = some (.int .i64 q) := h5.cell 0
      have d0 := h5.up2.frozen 0
      have c1 : w3.cell? ⟨E, 1, none⟩ = some (.int .i64 qn) := h5.cell 1
      have d1 := h5.up2.frozen 1
      have c2 : w3.cell? ⟨E, 2, none⟩ = some (.int .i64 qk) := h5.cell 2
      have d2 := h5.up2.frozen 2
      have c3 : w3.cell? ⟨E, 3, none⟩ = some (.slice aA 30 ac) := h5.cell 3
      have d3 := h5.up2.frozen 3
      have c4 : w3.cell? ⟨E, 4, none⟩ = some (.slice dA dl.length dc) := h5.cell 4
      have d4 := h5.up2.frozen 4
      have c5 : w3.cell? ⟨E, 5, none⟩ = some (.slice bA bn bc) := h5.cell 5
      have d5 := h5.up2.frozen 5
      have c6 : w3.cell? ⟨E, 6, none⟩ = some (.slice kA kl.length kc) := h5.cell 6
      have d6 := h5.up2.frozen 6
      have c7 : w3.cell? ⟨E, 7, none⟩ = some (.int .i64 qt) := h5.cell 7
      have d7 := h5.up2.frozen 7
      have c8 : w3.cell? ⟨E, 8, none⟩ = some (.int .i64 qc) := h5.cell 8
      have d8 := h5.up2.frozen 8
      have g0 : w3.cell? ⟨B, 0, none⟩ = some (.int .i64 0) := h5.up2.cell 0
      have g1 : w3.cell? ⟨B, 1, none⟩ = some (.int .i64 0) := h5.up2.cell 1
      have g2 : w3.cell? ⟨B, 2, none⟩ = some (.int .i64 0) := h5.up2.cell 2
      have g3 : w3.cell? ⟨B, 3, none⟩ = some (.slice none 0 0) := h5.up2.cell 3
      have g4 : w3.cell? ⟨B, 4, none⟩ = some (.slice none 0 0) := h5.up2.cell 4
      have g5 : w3.cell? ⟨B, 5, none⟩ = some (.slice none 0 0) := h5.up2.cell 5
      have g6 : w3.cell? ⟨B, 6, none⟩ = some (.slice none 0 0) := h5.up2.cell 6
      have g7 : w3.cell? ⟨B, 7, none⟩ = some (.int .i64 0) := h5.up2.cell 7
      have g8 : w3.cell? ⟨B, 8, none⟩ = some (.int .i64 0) := h5.up2.cell 8
      have h6 := (((((((((h5.up2.set 0 (.int .i64 q)).set 1 (.int .i64 qn)).set 2 (.int .i64 qk)).set 3 (.slice aA 30 ac)).set 4 (.slice dA dl.length dc)).set 5 (.slice bA bn bc)).set 6 (.slice kA kl.length kc)).set 7 (.int .i64 qt)).set 8 (.int .i64 qc))
      simp only [List.setIfInBounds_toArray, List.set_cons_zero, List.set_cons_succ] at h6
      have HS6 := Lib.hid h6
      clear h6
      clear h5
      go_wp2_with fail
      have h6 := HS6.out
      revert h6
      generalize World.setCell _ _ _ = w4
      intro h6
      refine bodyPost_ret (results_cell_row (p := 2) (by kernel_rfl) _ _ B 67 _ (0, 0) _ rfl h6.at Try.underlying67 rfl (by kernel_rfl)) rfl ?_
      have h7 := HQ.out
      rw [HE3.out, HE4.out] at h7
      exact ⟨congrArg Ending.returned h7.symm, h6.chg⟩
  · have h3' : ¬ (30 : Int) < al.length := by omega
    have e3 : an = al.length := by omega
    by_cases h4 : 30 < dl.length
    · have h4' : (30 : Int) < dl.length := by omega
      have h4c : (30 : Int) ≤ dc := by omega
      have e4 : dn = 30 := by omega
      have HE3 := Lib.hid e3; have HE4 := Lib.hid e4
      clear e3 e4 han hdn
      have h5 := ((HS.out.set 4 (.slice dA 30 dc)).set 5 (.slice bA bn bc))
      simp only [List.setIfInBounds_toArray, List.set_cons_zero, List.set_cons_succ] at h5
      have HS5 := Lib.hid h5
      clear h5
      go_upto_region 6 with (go_at_call 73; (with_reducible refine (HCu.out _).mono ?_); rintro e wx ⟨rfl, rfl⟩)
      clear c0 d0 c1 d1 c2 d2 c3 d3 c4 d4 c5 d5 c6 d6 c7 d7 c8 d8 f3 f4 f5
      have h5 := HS5.out
      revert h5
      generalize World.setCell _ _ _ = w3
      intro h5
      have c0 : w3.cell? ⟨E, 0, none⟩ = some (.int .i64 q) := h5.cell 0
      have d0 := h5.up2.frozen 0
      have c1 : w3.cell? ⟨E, 1, none⟩ = some (.int .i64 qn) := h5.cell 1
      have d1 := h5.up2.frozen 1
      have c2 : w3.cell? ⟨E, 2, none⟩ = some (.int .i64 qk) := h5.cell 2
      have d2 := h5.up2.frozen 2
      have c3 : w3.cell? ⟨E, 3, none⟩ = some (.slice aA al.length ac) := h5.cell 3
      have d3 := h5.up2.frozen 3
      have c4 : w3.cell? ⟨E, 4, none⟩ = some (.slice dA 30 dc) := h5.cell 4
      have d4 := h5.up2.frozen 4
      have c5 : w3.cell? ⟨E, 5, none⟩ = some (.slice bA bn bc) := h5.cell 5
      have d5 := h5.up2.frozen 5
      have c6 : w3.cell? ⟨E, 6, none⟩ = some (.slice kA kl.length kc) := h5.cell 6
      have d6 := h5.up2.frozen 6
      have c7 : w3.cell? ⟨E, 7, none⟩ = some (.int .i64 qt) := h5.cell 7
      have d7 := h5.up2.frozen 7
      have c8 : w3.cell? ⟨E, 8, none⟩ = some (.int .i64 qc) := h5.cell 8
      have d8 := h5.up2.frozen 8
      have g0 : w3.cell? ⟨B, 0, none⟩ = some (.int .i64 0) := h5.up2.cell 0
      have g1 : w3.cell? ⟨B, 1, none⟩ = some (.int .i64 0) := h5.up2.cell 1
      have g2 : w3.cell? ⟨B, 2, none⟩ = some (.int .i64 0) := h5.up2.cell 2
      have g3 : w3.cell? ⟨B, 3, none⟩ = some (.slice none 0 0) := h5.up2.cell 3
      have g4 : w3.cell? ⟨B, 4, none⟩ = some (.slice none 0 0) := h5.up2.cell 4
      have g5 : w3.cell? ⟨B, 5, none⟩ = some (.slice none 0 0) := h5.up2.cell 5
      have g6 : w3.cell? ⟨B, 6, none⟩ = some (.slice none 0 0) := h5.up2.cell 6
      have g7 : w3.cell? ⟨B, 7, none⟩ = some (.int .i64 0) := h5.up2.cell 7
      have g8 : w3.cell? ⟨B, 8, none⟩ = some (.int .i64 0) := h5.up2.cell 8
      have h6 := (((((((((h5.up2.set 0 (.int .i64 q)).set 1 (.int .i64 qn)).set 2 (.int .i64 qk)).set 3 (.slice aA al.length ac)).set 4 (.slice dA 30 dc)).set 5 (.slice bA bn bc)).set 6 (.slice kA kl.length kc)).set 7 (.int .i64 qt)).set 8 (.int .i64 qc))
      simp only [List.setIfInBounds_toArray, List.set_cons_zero, List.set_cons_succ] at h6
      have HS6 := Lib.hid h6
      clear h6
      clear h5
      go_wp2_with fail
      have h6 := HS6.out
      revert h6
      generalize World.setCell _ _ _ = w4
      intro h6
      refine bodyPost_ret (results_cell_row (p := 2) (by kernel_rfl) _ _ B 67 _ (0, 0) _ rfl h6.at Try.underlying67 rfl (by kernel_rfl)) rfl ?_
      have h7 := HQ.out
      rw [HE3.out, HE4.out] at h7
      exact ⟨congrArg Ending.returned h7.symm, h6.chg⟩
    · have h4' : ¬ (30 : Int) < dl.length := by omega
      have e4 : dn = dl.length := by omega
      have HE3 := Lib.hid e3; have HE4 := Lib.hid e4
      clear e3 e4 han hdn
      have h5 := (HS.out.set 5 (.slice bA bn bc))
      simp only [List.setIfInBounds_toArray, List.set_cons_zero, List.set_cons_succ] at h5
      have HS5 := Lib.hid h5
      clear h5
      go_upto_region 6 with (go_at_call 73; (with_reducible refine (HCu.out _).mono ?_); rintro e wx ⟨rfl, rfl⟩)
      clear c0 d0 c1 d1 c2 d2 c3 d3 c4 d4 c5 d5 c6 d6 c7 d7 c8 d8 f3 f4 f5
      have h5 := HS5.out
      revert h5
      generalize World.setCell _ _ _ = w3
      intro h5
      have c0 : w3.cell? ⟨E, 0, none⟩ = some (.int .i64 q) := h5.cell 0
      have d0 := h5.up2.frozen 0
      have c1 : w3.cell? ⟨E, 1, none⟩ = some (.int .i64 qn) := h5.cell 1
      have d1 := h5.up2.frozen 1
      have c2 : w3.cell? ⟨E, 2, none⟩ = some (.int .i64 qk) := h5.cell 2
      have d2 := h5.up2.frozen 2
      have c3 : w3.cell? ⟨E, 3, none⟩ = some (.slice aA al.length ac) := h5.cell 3
      have d3 := h5.up2.frozen 3
      have c4 : w3.cell? ⟨E, 4, none⟩ = some (.slice dA dl.length dc) := h5.cell 4
      have d4 := h5.up2.frozen 4
      have c5 : w3.cell? ⟨E, 5, none⟩ = some (.slice bA bn bc) := h5.cell 5
      have d5 := h5.up2.frozen 5
      have c6 : w3.cell? ⟨E, 6, none⟩ = some (.slice kA kl.length kc) := h5.cell 6
      have d6 := h5.up2.frozen 6
      have c7 : w3.cell? ⟨E, 7, none⟩ = some (.int .i64 qt) := h5.cell 7
      have d7 := h5.up2.frozen 7
      have c8 : w3.cell? ⟨E, 8, none⟩ = some (.int .i64 qc) := h5.cell 8
      have d8 := h5.up2.frozen 8
      have g0 : w3.cell? ⟨B, 0, none⟩ = some (.int .i64 0) := h5.up2.cell 0
      have g1 : w3.cell? ⟨B, 1, none⟩ = some (.int .i64 0) := h5.up2.cell 1
      have g2 : w3.cell? ⟨B, 2, none⟩ = some (.int .i64 0) := h5.up2.cell 2
      have g3 : w3.cell? ⟨B, 3, none⟩ = some (.slice none 0 0) := h5.up2.cell 3
      have g4 : w3.cell? ⟨B, 4, none⟩ = some (.slice none 0 0) := h5.up2.cell 4
      have g5 : w3.cell? ⟨B, 5, none⟩ = some (.slice none 0 0) := h5.up2.cell 5
      have g6 : w3.cell? ⟨B, 6, none⟩ = some (.slice none 0 0) := h5.up2.cell 6
      have g7 : w3.cell? ⟨B, 7, none⟩ = some (.int .i64 0) := h5.up2.cell 7
      have g8 : w3.cell? ⟨B, 8, none⟩ = some (.int .i64 0) := h5.up2.cell 8
      have h6 := (((((((((h5.up2.set 0 (.int .i64 q)).set 1 (.int .i64 qn)).set 2 (.int .i64 qk)).set 3 (.slice aA al.length ac)).set 4 (.slice dA dl.length dc)).set 5 (.slice bA bn bc)).set 6 (.slice kA kl.length kc)).set 7 (.int .i64 qt)).set 8 (.int .i64 qc))
      simp only [List.setIfInBounds_toArray, List.set_cons_zero, List.set_cons_succ] at h6
      have HS6 := Lib.hid h6
      clear h6
      clear h5
      go_wp2_with fail
      have h6 := HS6.out
      revert h6
      generalize World.setCell _ _ _ = w4
      intro h6
      refine bodyPost_ret (results_cell_row (p := 2) (by kernel_rfl) _ _ B 67 _ (0, 0) _ rfl h6.at Try.underlying67 rfl (by kernel_rfl)) rfl ?_
      have h7 := HQ.out
      rw [HE3.out, HE4.out] at h7
      exact ⟨congrArg Ending.returned h7.symm, h6.chg⟩
end Go.Proofs.Ytjmapbhgjhlefaa
