/- The statements' helpers that lend rows of bytes and look at them again: Cut, Lend, Back. -/
import Derived.Test.YtjmapbhgjhlefaaQ02
namespace Go.Proofs.Ytjmapbhgjhlefaa
open Go.RowKit
set_option linter.unusedVariables false
set_option maxRecDepth 100000

theorem kcut_any (A : Option Addr) (c : Nat) (l : List UInt8) (n : Nat) (w : World) (hc : l.length ≤ c) (hm : c ≤ 9223372036854775807) (hn : n ≤ 65536) :
    Calls Try.prog 73 #[.slice A l.length c, .int .i64 n] w fun e w' => e = .returned (.slice A (l.take n).length c) ∧ w = w' := by
  by_cases h : n < l.length
  · have he : (l.take n).length = n := by rw [List.length_take]; omega
    have HE := Lib.hid he
    clear he
    have h2 : (n : Int) ≤ c := by omega
    have h3 : (n : Int) < l.length := by omega
    go_enter Try.func73, Try.ntmps73
    go_wp2
    go_ret
    exact ⟨by rw [HE.out]; rfl, rfl⟩
  · have he : l.take n = l := List.take_of_length_le (by omega)
    rw [he]
    clear he
    go_enter Try.func73, Try.ntmps73
    go_wp2
    go_ret
    exact ⟨rfl, rfl⟩

theorem run_make_cap (n : Nat) (hn : n ≤ 140737488355330) (W : World) : (Instr.makeSlice 39 (.int .i64 0) (.int .i64 (n : Int))).run Try.prog W =
    .ok (.slice (some ⟨W.heap.size, 0, none⟩) 0 n) (W.alloc (.cells (madeCells #[.int .u8 0] n) 5)) := by
  obtain ⟨i0, hi, hz0, hz1, hz2⟩ := info_parts info_u8
  have hr := run_make (P := Try.prog) W 39 5 i0 _ Try.underlying39 hi hz0 .i64 .i64 0 n (by omega) (by omega) (by rw [hz2]; omega) (by omega)
  have hc : (Value.int .u8 0).cells = #[.int .u8 0] := rfl
  simpa [hz1, hc] using hr

def Marked (l : List UInt8) : Array Value := ((l ++ [165, 90]).map bv).toArray
/-- Lend: the bytes with two marks behind them. -/
def Lent (l : List UInt8) (w : World) (e : Ending) (w' : World) : Prop :=
  ∃ g, e = .returned (.slice (some ⟨g, 0, none⟩) l.length (l.length + 2)) ∧ w.heap.size ≤ g ∧ At w' g 5 (Marked l) ∧ Chg No w w'
theorem marked_rd {l : List UInt8} {w : World} {g : Nat} (h : At w g 5 (Marked l)) : Rd w (some ⟨g, 0, none⟩) l :=
  RdV.of_at h fun j hj => by
    simp only [List.length_map] at hj
    simp [Marked, List.getElem?_append_left, hj]
theorem one_two (k k' : IntKind) (a b : Int) : ∀ u ∈ [Value.int k a, .int k' b], u.oneCell' = true := by
  intro u hu
  simp at hu
  rcases hu with rfl | rfl <;> rfl
theorem lend_any (A : Option Addr) (c : Nat) (l : List UInt8) (w : World) (h : Rd w A l) (hl : l.length ≤ 140737488355328) :
    Calls Try.prog 37 #[.slice A l.length c] w (Lent l w) := by
  obtain ⟨i0, hi, hz0, hz1, hz2⟩ := info_parts info_u8
  have hmk : ∀ W : World, (Instr.makeSlice 39 (.int .i64 0) (.int .i64 ((l.length : Int) + 2))).run Try.prog W =
    .ok (.slice (some ⟨W.heap.size, 0, none⟩) 0 (l.length + 2)) (W.alloc (.cells (madeCells #[.int .u8 0] (l.length + 2)) 5)) := fun W => by
      have := run_make_cap (l.length + 2) (by omega) W
      simpa using this
  have HL := Lib.hid h
  clear h
  go_enter Try.func37, Try.ntmps37
  go_wp2_with (first
    | (at_builtin; refine wpList_fit rfl (.tmp 8) (.tmp 9) 39 rfl 5 i0 Try.underlying39 hi hz1 w.heap.size 0 (l.length + 2) (madeCells #[.int .u8 0] (l.length + 2)) rfl (At.new w _ _) (by simp [madeCells]) A l.length c (l.map bv) rfl ((HL.out).alloc _) (by simp) (bv_one l) (by omega) ?_; intro w1 h1 k1; have H1 := Lib.hid h1; have K1 := Lib.hid (((Chg.refl No w).alloc (.cells (madeCells #[.int .u8 0] (l.length + 2)) 5)).own k1 (fun i hi => by cases hi; exact Nat.le_refl _)); clear h1 k1)
    | (at_builtin; refine wpList_fit rfl (.tmp 11) (.tmp 12) 39 rfl 5 i0 Try.underlying39 hi hz1 w.heap.size l.length (l.length + 2) _ rfl (H1.out.alloc _) (by simp [madeCells]) (some ⟨w1.heap.size, 0, none⟩) 2 2 [.int .u8 165, .int .u8 90] rfl (RdV.lit w1 #[.int .u8 165, .int .u8 90] 5 (0, 0)) rfl (one_two _ _ _ _) (by omega) ?_; intro w2 h2 k2; have H2 := Lib.hid h2; have K2 := Lib.hid (((K1.out).alloc (.cells #[.int .u8 165, .int .u8 90] 5)).own k2 (fun i hi => by cases hi; exact Nat.le_refl _)); clear h2 k2))
  go_ret
  refine ⟨w.heap.size, rfl, Nat.le_refl _, ?_, K2.out⟩
  have h2 := H2.out
  have e : ∀ x, x = Marked l → At w2 w.heap.size 5 x → At w2 w.heap.size 5 (Marked l) := fun x e h => e ▸ h
  refine e _ ?_ h2
  simp [Marked, madeCells, bv]

/-- Back: bytes that were lent and are as they were, the marks too; then they are written over. -/
def Gone (g : Nat) (w : World) (e : Ending) (w' : World) : Prop := e = .returned (.bool true) ∧ Chg (One g) w w'
theorem back_yes (g d : Nat) (B : Option Addr) (l : List UInt8) (w : World) (hg : At w g 5 (Marked l)) (hb : Rd w B l) (hl : l.length ≤ 140737488355328) :
    Calls Try.prog 39 #[.slice (some ⟨g, 0, none⟩) l.length (l.length + 2), .slice B l.length d] w (Gone g w) := by
  have hm0 : w.cell? ⟨g, l.length, none⟩ = some (.int .u8 165) := by
    rw [hg.cell]
    simp [Marked, bv]
  have hm1 : w.cell? ⟨g, l.length + 1, none⟩ = some (.int .u8 90) := by
    rw [hg.cell]
    simp [Marked, bv]
  have HR := Lib.hid (marked_rd hg)
  have HB := Lib.hid hb
  have HG := Lib.hid hg
  clear hg hb
  go_enter Try.func39, Try.ntmps39
  go_wp2_with fail
  refine (same_any _ _ _ _ l l w HR.out HB.out).mono ?_
  rintro e w1 ⟨rfl, rfl⟩
  have hll : (l == l) = true := beq_self_eq_true l
  rw [hll]
  clear hll
  go_wp2_with fail
  go_loopw [6] (fun i wr => ∃ k : Nat, k ≤ l.length ∧ i = .int .i64 k ∧ Hid ((∃ cur, At wr g 5 cur ∧ ∀ j, j < l.length → ∃ n : Int, cur[j]? = some (.int .u8 n)) ∧ Chg (One g) w wr)) (fun i _ => l.length - (intOf i).toNat)
  case atStart =>
    refine ⟨0, by omega, rfl, ⟨_, HG.out, fun j hj => ⟨(l[j].toNat : Int), ?_⟩⟩, Chg.refl _ _⟩
    simp [Marked, List.getElem?_append_left, hj, bv]
  case round =>
    obtain ⟨k, hk, rfl, HR2⟩ := hrel
    by_cases hlt : k < l.length
    · obtain ⟨cur, hcur, hint⟩ := HR2.out.1
      obtain ⟨n, hn⟩ := hint k hlt
      have hc : wr.cell? ⟨g, k, none⟩ = some (.int .u8 n) := by rw [hcur.cell, hn]
      have hfz := hcur.frozen k
      have HC := Lib.hid hcur
      have HI := Lib.hid hint
      have hkc : k < cur.size := (Array.getElem?_eq_some_iff.1 hn).1
      clear hcur hint hn
      go_wp2_with fail
      go_roundw
      case rel =>
        refine ⟨k + 1, by omega, by go_num, ⟨_, HC.out.set k _, fun j hj => ?_⟩, HR2.out.2.setCell (p := ⟨g, k, none⟩) (fun _ => rfl) _⟩
        by_cases e : k = j
        · subst e
          exact ⟨_, by rw [Array.getElem?_setIfInBounds, if_pos rfl, if_pos hkc]⟩
        · rw [Array.getElem?_setIfInBounds, if_neg e]
          exact HI.out j hj
      case measure => simp [intOf]; omega
    · go_wp2_with fail
      go_ret
      exact ⟨rfl, HR2.out.2⟩
end Go.Proofs.Ytjmapbhgjhlefaa
