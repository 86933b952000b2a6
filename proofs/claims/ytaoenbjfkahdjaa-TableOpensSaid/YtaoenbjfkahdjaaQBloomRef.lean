/- The document's filter (tidingsref06): Places, Has, Add, Size: the same plain functions. -/
import Derived.Test.YtaoenbjfkahdjaaQ07
namespace Go.Proofs.Ytaoenbjfkahdjaa
open Go.RowKit
set_option linter.unusedVariables false
set_option maxRecDepth 100000

theorem hop_even (key : List UInt8) (h : fnv key / 4294967296 % 2 = 0) : hop key = fnv key / 4294967296 + 1 := by
  unfold hop
  exact nat_join 1 _ 1 (by simpa using h) (by omega)
theorem hop_odd (key : List UInt8) (h : fnv key / 4294967296 % 2 = 1) : hop key = fnv key / 4294967296 := by
  unfold hop
  generalize fnv key / 4294967296 = x at h
  apply Nat.eq_of_testBit_eq
  intro i
  rw [Nat.testBit_or]
  rcases i with _ | i
  · simp [Nat.testBit_zero, h]
  · simp [Nat.testBit_succ]

theorem quo_u64 (a : Nat) : ((a : Int).tdiv 4294967296) = ((a / 4294967296 : Nat) : Int) := by
  rw [Int.tdiv_eq_ediv_of_nonneg (by omega)]; simp

/-- Places: four of them, as an array. -/
def Placed (key : List UInt8) (m : Nat) (w : World) (e : Ending) (w' : World) : Prop :=
  e = .returned (.agg #[.int .i64 (place key 0 m), .int .i64 (place key 1 m), .int .i64 (place key 2 m), .int .i64 (place key 3 m)]) ∧ Chg No w w'
theorem quad_end {w : World} {g t : Nat} (h : At w g t #[.int .i64 0, .int .i64 0, .int .i64 0, .int .i64 0]) (a b c d : Int) :
    let W := (((w.setCell ⟨g, 0, none⟩ (.int .i64 a)).setCell ⟨g, 1, none⟩ (.int .i64 b)).setCell ⟨g, 2, none⟩ (.int .i64 c)).setCell ⟨g, 3, none⟩ (.int .i64 d)
    W.cell? ⟨g, 0, none⟩ = some (.int .i64 a) ∧ W.cell? ⟨g, 1, none⟩ = some (.int .i64 b) ∧ W.cell? ⟨g, 2, none⟩ = some (.int .i64 c) ∧ W.cell? ⟨g, 3, none⟩ = some (.int .i64 d) := by
  intro W
  have H := (((h.set 0 (.int .i64 a)).set 1 (.int .i64 b)).set 2 (.int .i64 c)).set 3 (.int .i64 d)
  exact ⟨by rw [H.cell]; rfl, by rw [H.cell]; rfl, by rw [H.cell]; rfl, by rw [H.cell]; rfl⟩
def Quad (key : List UInt8) (M k : Nat) (w wr : World) : Prop :=
  (∃ cur, At wr (w.heap.size + 1) 142 cur ∧ cur.size = 4 ∧ ∀ j, j < k → cur[j]? = some (.int .i64 (place key j M))) ∧ At wr w.heap.size 142 #[.int .i64 0, .int .i64 0, .int .i64 0, .int .i64 0] ∧ Chg No w wr
set_option maxHeartbeats 1000000 in
theorem places_any (A : Option Addr) (c : Nat) (key : List UInt8) (m : Int) (M : Nat) (w : World) (hk : Rd w A key) (hl : key.length ≤ 140737488355328) (hm : m = (M : Int)) (hM : 64 ≤ M ∧ M ≤ 2097152) :
    Calls Try.prog 100 #[.slice A key.length c, .int .i64 m] w (Placed key M w) := by
  subst hm
  obtain ⟨hM1, hM2⟩ := hM
  have HK := Lib.hid hk
  clear hk
  go_enter Try.func100, Try.ntmps100
  go_wp2
  go_loopw [5, 6] (fun h i wr => ∃ k : Nat, k ≤ key.length ∧ i = .int .i64 k ∧ h = .int .u64 (fnv (key.take k)) ∧ Hid (wr = w.alloc (.cells #[.int .i64 0, .int .i64 0, .int .i64 0, .int .i64 0] 142))) (fun _ i _ => key.length - (intOf i).toNat)
  case atStart => exact ⟨0, by omega, rfl, rfl, rfl⟩
  case round =>
    obtain ⟨k, hk, rfl, rfl, HW⟩ := hrel
    by_cases hlt : k < key.length
    · obtain ⟨b, o, rfl, hc0⟩ := HK.out.get hlt
      have hc : wr.cell? ⟨b, o + k, none⟩ = some (.int .u8 (key[k].toNat : Int)) := by rw [HW.out]; exact ((Chg.refl No w).alloc _).cell hc0 id
      have HX := Lib.hid (xor_step (fnv (key.take k)) key[k] (fnv_lt _))
      have HT := Lib.hid (fnv_take key k hlt)
      clear hc0
      generalize key[k] = x at hc HX HT
      go_wp2
      go_roundw
      case rel => exact ⟨k + 1, by omega, by go_num, by rw [HT.out, ← HX.out], HW.out⟩
      case measure => simp [intOf]; omega
    · have ht : key.take k = key := List.take_of_length_le (by omega)
      rw [ht]
      clear ht
      have hw := HW.out
      subst hw
      have hf := fnv_lt key
      go_upto_if 28 with fail
      go_cut [7] (fun s wx => s = .int .u64 (hop key) ∧ Hid (wx = w.alloc (.cells #[.int .i64 0, .int .i64 0, .int .i64 0, .int .i64 0] 142)))
      case first =>
        by_cases he : fnv key / 4294967296 % 2 = 0
        · have hb : ((fnv key : Int) / 4294967296 % 2 == 0) = true := by rw [beq_iff_eq]; omega
          have HE := Lib.hid (hop_even key he)
          clear he
          go_wp2_with fail
          go_meet
          exact ⟨by rw [HE.out]; rfl, rfl⟩
        · have hb : ((fnv key : Int) / 4294967296 % 2 == 0) = false := by rw [beq_eq_false_iff_ne]; omega
          have HE := Lib.hid (hop_odd key (by omega))
          clear he
          go_wp2_with fail
          go_meet
          exact ⟨by rw [HE.out]; rfl, rfl⟩
      case rest =>
        obtain ⟨rfl, HW2⟩ := hcut
        have hw := HW2.out
        subst hw
        have hh := hop_lt key
        go_wp2_with fail
        go_loopw [9] (fun i wr => ∃ k : Nat, k ≤ 4 ∧ i = .int .i64 k ∧ Hid (Quad key M k w wr)) (fun i _ => 4 - (intOf i).toNat)
        case atStart => exact ⟨0, by omega, rfl, ⟨#[.int .i64 0, .int .i64 0, .int .i64 0, .int .i64 0], by simpa using At.new (w.alloc (.cells #[.int .i64 0, .int .i64 0, .int .i64 0, .int .i64 0] 142)) 142 #[.int .i64 0, .int .i64 0, .int .i64 0, .int .i64 0], rfl, fun j hj => by omega⟩, (At.new w _ _).alloc _, ((Chg.refl No w).alloc _).alloc _⟩
        case round =>
          obtain ⟨k, hk, rfl, HR⟩ := hrel
          by_cases hlt : k < 4
          · obtain ⟨cur, hcur, hsz, hpl⟩ := HR.out.1
            obtain ⟨x, hx⟩ : ∃ x, cur[k]? = some x := ⟨_, Array.getElem?_eq_getElem (by omega)⟩
            have hc : wr.cell? ⟨w.heap.size + 1, k, none⟩ = some x := by rw [hcur.cell, hx]
            have hfz := hcur.frozen k
            have hkh : (0 : Int) ≤ (k : Int) * (hop key : Int) ∧ (k : Int) * (hop key : Int) ≤ 17179869184 := by
              have : k * hop key ≤ 4 * 4294967296 := Nat.mul_le_mul (by omega) (by omega)
              have e : (k : Int) * (hop key : Int) = ((k * hop key : Nat) : Int) := by simp
              rw [e]
              omega
            obtain ⟨hkh1, hkh2⟩ := hkh
            have e1 : IntKind.u64.wrap ((fnv key : Int) + (k : Int) * (hop key : Int)) = (walkAt key k : Int) := by
              have := wrap_add (fnv key) (k * hop key)
              unfold walkAt
              simpa using this
            have e2 : (walkAt key k : Int) % (M : Int) = (place key k M : Int) := by unfold place; simp
            have hw := walkAt_lt key k
            have hp := place_lt key k M (by omega)
            have HP := Lib.hid hpl
            have HC := Lib.hid hcur
            have HS := Lib.hid hsz
            clear hpl hcur hsz hx
            go_wp2_with fail
            go_roundw
            case rel =>
              refine ⟨k + 1, by omega, by go_num, ⟨_, HC.out.set k _, by simpa using HS.out, fun j hj => ?_⟩, HR.out.2.1.far (by simp) _, HR.out.2.2.setCell (p := ⟨w.heap.size + 1, k, none⟩) (fun h => by simp at h; omega) _⟩
              rw [Array.getElem?_setIfInBounds]
              by_cases e : k = j
              · subst e; rw [if_pos rfl, if_pos (by have := HS.out; omega)]
              · rw [if_neg e]; exact HP.out j (by omega)
            case measure => simp [intOf]; omega
          · obtain rfl : k = 4 := by omega
            obtain ⟨cur, hcur, hsz, hpl⟩ := HR.out.1
            have q0 : wr.cell? ⟨w.heap.size + 1, 0, none⟩ = some (.int .i64 (place key 0 M)) := by rw [hcur.cell]; exact hpl 0 (by omega)
            have q1 : wr.cell? ⟨w.heap.size + 1, 1, none⟩ = some (.int .i64 (place key 1 M)) := by rw [hcur.cell]; exact hpl 1 (by omega)
            have q2 : wr.cell? ⟨w.heap.size + 1, 2, none⟩ = some (.int .i64 (place key 2 M)) := by rw [hcur.cell]; exact hpl 2 (by omega)
            have q3 : wr.cell? ⟨w.heap.size + 1, 3, none⟩ = some (.int .i64 (place key 3 M)) := by rw [hcur.cell]; exact hpl 3 (by omega)
            have hrs := HR.out.2.1
            have z0 : wr.cell? ⟨w.heap.size, 0, none⟩ = some (.int .i64 0) := by rw [hrs.cell]; rfl
            have z1 : wr.cell? ⟨w.heap.size, 1, none⟩ = some (.int .i64 0) := by rw [hrs.cell]; rfl
            have z2 : wr.cell? ⟨w.heap.size, 2, none⟩ = some (.int .i64 0) := by rw [hrs.cell]; rfl
            have z3 : wr.cell? ⟨w.heap.size, 3, none⟩ = some (.int .i64 0) := by rw [hrs.cell]; rfl
            have y0 := hrs.frozen 0
            have y1 := hrs.frozen 1
            have y2 := hrs.frozen 2
            have y3 := hrs.frozen 3
            have HH := Lib.hid (quad_end hrs (place key 0 M) (place key 1 M) (place key 2 M) (place key 3 M))
            clear hcur hsz hpl hrs
            go_wp2_with fail
            obtain ⟨x0, x1, x2, x3⟩ := HH.out
            refine bodyPost_ret (v := .agg #[.int .i64 (place key 0 M), .int .i64 (place key 1 M), .int .i64 (place key 2 M), .int .i64 (place key 3 M)]) (by simp [results, Try.results100, go_sem, x0, x1, x2, x3]) rfl ⟨rfl, ?_⟩
            exact (((HR.out.2.2.setCell (p := ⟨w.heap.size, 0, none⟩) (fun h => absurd h (Nat.lt_irrefl _)) _).setCell (p := ⟨w.heap.size, 1, none⟩) (fun h => absurd h (Nat.lt_irrefl _)) _).setCell (p := ⟨w.heap.size, 2, none⟩) (fun h => absurd h (Nat.lt_irrefl _)) _).setCell (p := ⟨w.heap.size, 3, none⟩) (fun h => absurd h (Nat.lt_irrefl _)) _
end Go.Proofs.Ytaoenbjfkahdjaa
