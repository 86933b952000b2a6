/- octet.Join, wal.Need, the statements' Long and Within, each walked once. -/
import Derived.Test.YtjmapbhgjhlefaaQ06
import Derived.Test.YtjmapbhgjhlefaaQWalFns
import Derived.Test.YtjmapbhgjhlefaaQWithin
namespace Go.Proofs.Ytjmapbhgjhlefaa
open Go.RowKit
set_option linter.unusedVariables false
set_option maxRecDepth 100000

def needI (n : Int) : Int := if 0 ≤ n then (needN n.toNat : Int) else 0
/-- Need. -/
theorem need_any (n : Int) (w : World) (hn : -9223372036854775808 ≤ n ∧ n ≤ 9223372036854775807) :
    Calls Try.prog 50 #[.int .i64 n] w fun e w' => e = .returned (.int .i64 (needI n)) ∧ w = w' := by
  by_cases h0 : n < 0
  · have e : needI n = 0 := if_neg (show ¬ 0 ≤ n by omega)
    have H := Lib.hid e
    clear e
    go_enter Try.func50, Try.ntmps50
    go_wp2
    go_ret
    exact ⟨by rw [H.out]; rfl, rfl⟩
  by_cases h1 : 262144 < n
  · have e : needI n = 0 := by rw [needI, if_pos (by omega), needN, if_neg (by omega)]; rfl
    have H := Lib.hid e
    clear e
    go_enter Try.func50, Try.ntmps50
    go_wp2
    go_ret
    exact ⟨by rw [H.out]; rfl, rfl⟩
  have e : needI n = max ((n + 478) / 479) 1 := by rw [needI, if_pos (by omega), needN, if_pos (by omega)]; omega
  obtain ⟨hn1, hn2⟩ := hn
  by_cases h2 : n = 0
  · subst h2
    have H := Lib.hid e
    clear e
    go_enter Try.func50, Try.ntmps50
    go_wp2
    go_ret
    exact ⟨by rw [H.out]; rfl, rfl⟩
  · have h3 : 1 ≤ (n + 478) / 479 := by omega
    have e2 : max ((n + 478) / 479) 1 = (n + 478) / 479 := by omega
    have h4 : 0 ≤ n := by omega
    rw [e2] at e
    have H := Lib.hid e
    clear e e2
    go_enter Try.func50, Try.ntmps50
    go_wp2
    go_ret
    refine ⟨?_, rfl⟩
    rw [H.out]
    have e : n + 479 - 1 = n + 478 := by omega
    rw [← e]
    rfl

/-- Long: a batch made of one number. -/
def Longed (l : List UInt8) (w : World) (e : Ending) (w' : World) : Prop :=
  ∃ g, e = .returned (.slice (some ⟨g, 0, none⟩) l.length l.length) ∧ w.heap.size ≤ g ∧ At w' g 5 (l.map bv).toArray ∧ Chg No w w'
theorem longed_rd {l : List UInt8} {w w' : World} {e : Ending} (h : Longed l w e w') : ∃ A c, e = .returned (.slice A l.length c) ∧ Rd w' A l ∧ Chg No w w' := by
  obtain ⟨g, rfl, h1, h2, h3⟩ := h
  exact ⟨_, _, rfl, RdV.of_at h2 fun j hj => by simp at hj; simp [hj], h3⟩
def LongAt (n : Nat) (v : Int) (k : Nat) (w wr : World) : Prop := ∃ cur, At wr w.heap.size 5 cur ∧ cur.size = n ∧ (∀ j, j < k → cur[j]? = some (bv (longB v j))) ∧ Chg No w wr
theorem long_any (n : Nat) (v : Int) (w : World) (hn : n ≤ 1000000) :
    Calls Try.prog 48 #[.int .i64 n, .int .i64 v] w (Longed (long n v) w) := by
  have hmk : ∀ W : World, (Instr.makeSlice 39 (.int .i64 (n : Int)) (.int .i64 (n : Int))).run Try.prog W =
    .ok (.slice (some ⟨W.heap.size, 0, none⟩) n n) (W.alloc (.cells (madeCells #[.int .u8 0] n) 5)) := by
      intro W
      obtain ⟨i0, hi, hz0, hz1, hz2⟩ := info_parts info_u8
      have hr := run_make (P := Try.prog) W 39 5 i0 _ Try.underlying39 hi hz0 .i64 .i64 n n (by omega) (Int.le_refl _) (by rw [hz2]; omega) (by omega)
      have hc : (Value.int .u8 0).cells = #[.int .u8 0] := rfl
      simpa [hz1, hc] using hr
  go_enter Try.func48, Try.ntmps48
  go_wp2
  go_loopw [6] (fun i wr => ∃ k : Nat, k ≤ n ∧ i = .int .i64 k ∧ Hid (LongAt n v k w wr)) (fun i _ => n - (intOf i).toNat)
  case atStart => exact ⟨0, by omega, rfl, _, At.new w _ _, by simp [madeCells], fun j hj => by omega, (Chg.refl No w).alloc _⟩
  case round =>
    obtain ⟨k, hk, rfl, HD⟩ := hrel
    by_cases hlt : k < n
    · obtain ⟨cur, hcur, hsz, hpre, hch⟩ := HD.out
      obtain ⟨x, hx⟩ : ∃ x, cur[k]? = some x := ⟨_, Array.getElem?_eq_getElem (by omega)⟩
      have hc : wr.cell? ⟨w.heap.size, k, none⟩ = some x := by rw [hcur.cell, hx]
      have hfz := hcur.frozen k
      have HC := Lib.hid hcur
      have HS := Lib.hid hsz
      have HP := Lib.hid hpre
      have HH := Lib.hid hch
      clear hcur hsz hpre hch hx
      go_wp2_with fail
      go_roundw
      case rel =>
        refine ⟨k + 1, by omega, by go_num, _, HC.out.set k _, by simpa using HS.out, fun j hj => ?_, HH.out.setCell (p := ⟨w.heap.size, k, none⟩) (fun h => absurd h (Nat.lt_irrefl _)) _⟩
        rw [Array.getElem?_setIfInBounds]
        by_cases e : k = j
        · subst e
          rw [if_pos rfl, if_pos (by have := HS.out; omega), bv_longB]
          refine congrArg (fun z => some (Value.int .u8 z)) ?_
          unfold wrap64
          omega
        · rw [if_neg e]
          exact HP.out j (by omega)
      case measure => simp [intOf]; omega
    · obtain rfl : k = n := by omega
      go_wp2_with fail
      go_ret
      obtain ⟨cur, hcur, hsz, hpre, hch⟩ := HD.out
      have hcu : cur = ((long k v).map bv).toArray := by
        apply Array.ext_getElem?
        intro j
        by_cases hj : j < k
        · rw [hpre j hj]
          simp [long, hj]
        · rw [Array.getElem?_eq_none (by omega), Array.getElem?_eq_none (by simp [long]; omega)]
      subst hcu
      refine ⟨w.heap.size, ?_, Nat.le_refl _, hcur, hch⟩
      rw [length_long]
      rfl
end Go.Proofs.Ytjmapbhgjhlefaa
