/- The document's filter: its size, and a key added. -/
import Derived.Test.YtaoenbjfkahdjaaQBloomRef2
namespace Go.Proofs.Ytaoenbjfkahdjaa
open Go.RowKit
set_option linter.unusedVariables false
set_option maxRecDepth 100000

theorem refSize_no (k e : Int) (w : World) (h : ¬ (0 ≤ k ∧ k ≤ 65536 ∧ 1 ≤ e ∧ e ≤ 32)) :
    Calls Try.prog 75 #[.int .i64 k, .int .i64 e] w fun x w' => x = .returned (.tuple #[.int .i64 0, .int .i64 60]) ∧ w = w' := by
  by_cases h1 : k < 0
  · clear h
    go_enter Try.func75, Try.ntmps75
    go_wp2
    go_ret2
    exact ⟨rfl, rfl⟩
  by_cases h2 : 65536 < k
  · clear h
    go_enter Try.func75, Try.ntmps75
    go_wp2
    go_ret2
    exact ⟨rfl, rfl⟩
  by_cases h3 : e < 1
  · clear h
    go_enter Try.func75, Try.ntmps75
    go_wp2
    go_ret2
    exact ⟨rfl, rfl⟩
  have h4 : 32 < e := by omega
  clear h
  go_enter Try.func75, Try.ntmps75
  go_wp2
  go_ret2
  exact ⟨rfl, rfl⟩

theorem refSize_yes (k e : Int) (w : World) (h : 0 ≤ k ∧ k ≤ 65536 ∧ 1 ≤ e ∧ e ≤ 32) :
    Calls Try.prog 75 #[.int .i64 k, .int .i64 e] w fun x w' => x = .returned (.tuple #[.int .i64 (8 * (nbytes k e : Int)), .int .i64 0]) ∧ w = w' := by
  obtain ⟨⟨hm0, hm1⟩, h8, h9⟩ := nbytes_le k e h
  obtain ⟨h1, h2, h3, h4⟩ := h
  have HT : Hid (8 * (nbytes k e : Int) = (max (k * e) 64 + 7) / 8 * 8) := Lib.hid (by unfold nbytes; omega)
  generalize nbytes k e = N at *
  by_cases h7 : k * e < 64
  · have H1 := Lib.hid (show max (k * e) 64 = 64 by omega)
    go_enter Try.func75, Try.ntmps75
    go_wp2
    go_loopw [6] (fun m wr => ∃ M : Int, 64 ≤ M ∧ M ≤ 8 * (N : Int) ∧ 8 * (N : Int) < M + 8 ∧ m = .int .i64 M ∧ Hid (w = wr)) (fun m _ => (8 * (N : Int) - intOf m).toNat)
    case atStart => exact ⟨_, by have := H1.out; have := HT.out; omega, by have := H1.out; have := HT.out; omega, by have := H1.out; have := HT.out; omega, rfl, rfl⟩
    case round =>
      obtain ⟨M, hM1, hM2, hM3, rfl, hw⟩ := hrel
      obtain rfl := hw.out
      clear hw
      have hmod : M.tmod 8 = M % 8 := Int.tmod_eq_emod_of_nonneg (by omega)
      by_cases hz : M = 8 * (N : Int)
      · have hz0 : (M.tmod 8 != 0) = false := by rw [hmod]; simp; omega
        clear hmod
        subst hz
        go_wp2_with fail
        go_ret2
        exact ⟨rfl, rfl⟩
      · have hz0 : (M.tmod 8 != 0) = true := by rw [hmod]; simp; omega
        clear hmod
        go_wp2_with fail
        go_roundw
        case rel => exact ⟨M + 1, by omega, by omega, by omega, rfl, trivial⟩
        case measure => simp [intOf]; omega
  · have H1 := Lib.hid (show max (k * e) 64 = k * e by omega)
    go_enter Try.func75, Try.ntmps75
    go_wp2
    go_loopw [6] (fun m wr => ∃ M : Int, 64 ≤ M ∧ M ≤ 8 * (N : Int) ∧ 8 * (N : Int) < M + 8 ∧ m = .int .i64 M ∧ Hid (w = wr)) (fun m _ => (8 * (N : Int) - intOf m).toNat)
    case atStart => exact ⟨_, by have := H1.out; have := HT.out; omega, by have := H1.out; have := HT.out; omega, by have := H1.out; have := HT.out; omega, rfl, rfl⟩
    case round =>
      obtain ⟨M, hM1, hM2, hM3, rfl, hw⟩ := hrel
      obtain rfl := hw.out
      clear hw
      have hmod : M.tmod 8 = M % 8 := Int.tmod_eq_emod_of_nonneg (by omega)
      by_cases hz : M = 8 * (N : Int)
      · have hz0 : (M.tmod 8 != 0) = false := by rw [hmod]; simp; omega
        clear hmod
        subst hz
        go_wp2_with fail
        go_ret2
        exact ⟨rfl, rfl⟩
      · have hz0 : (M.tmod 8 != 0) = true := by rw [hmod]; simp; omega
        clear hmod
        go_wp2_with fail
        go_roundw
        case rel => exact ⟨M + 1, by omega, by omega, by omega, rfl, trivial⟩
        case measure => simp [intOf]; omega

/-- The document's filter g (its one cell) over the row h: the bits B. -/
def RFilt (w : World) (g h n c : Nat) (B : List UInt8) : Prop :=
  At w g 130 #[.slice (some ⟨h, 0, none⟩) n c] ∧ ∃ cur, At w h 5 cur ∧ n = B.length ∧ n ≤ cur.size ∧ ∀ j (hj : j < B.length), cur[j]? = some (bv B[j])
section filt
variable {w w' : World} {g h n c : Nat} {B : List UInt8}
theorem RFilt.ne (f : RFilt w g h n c B) : g ≠ h := by
  obtain ⟨h1, cur, h2, _⟩ := f
  exact h1.ne h2 (by decide)
theorem RFilt.lt (f : RFilt w g h n c B) : g < w.heap.size ∧ h < w.heap.size := by
  obtain ⟨h1, cur, h2, _⟩ := f
  exact ⟨h1.lt, h2.lt⟩
theorem RFilt.len (f : RFilt w g h n c B) : n = B.length := by
  obtain ⟨_, cur, _, h3, _⟩ := f
  exact h3
theorem RFilt.chg {S : Nat → Prop} (f : RFilt w g h n c B) (k : Chg S w w') (hg : ¬ S g) (hh : ¬ S h) : RFilt w' g h n c B := by
  obtain ⟨h1, cur, h2, h3⟩ := f
  exact ⟨h1.chg k hg, cur, h2.chg k hh, h3⟩
theorem RFilt.new (f : RFilt w g h n c B) (k : Chg No w w') : RFilt w' g h n c B := f.chg k id id
theorem RFilt.head (f : RFilt w g h n c B) : w.cell? ⟨g, 0, none⟩ = some (.slice (some ⟨h, 0, none⟩) n c) := by rw [f.1.cell]; rfl
theorem RFilt.bit (f : RFilt w g h n c B) {j : Nat} (hj : j < B.length) : w.cell? ⟨h, j, none⟩ = some (.int .u8 (B[j].toNat : Int)) := by
  obtain ⟨_, cur, h2, _, _, h5⟩ := f
  rw [h2.cell, h5 j hj]
  rfl
theorem RFilt.free (f : RFilt w g h n c B) (j : Nat) : w.frozen? ⟨h, j, none⟩ = false := by
  obtain ⟨_, cur, h2, _⟩ := f
  exact h2.frozen j
theorem RFilt.rd (f : RFilt w g h n c B) : Rd w (some ⟨h, 0, none⟩) B := by
  obtain ⟨_, cur, h2, _, _, h5⟩ := f
  exact RdV.of_at h2 fun j hj => by rw [h5 j (by simpa using hj)]; simp
theorem RFilt.set (f : RFilt w g h n c B) (j : Nat) (hj : j < B.length) (b : UInt8) : RFilt (w.setCell ⟨h, j, none⟩ (bv b)) g h n c (B.set j b) := by
  have hne := f.ne
  obtain ⟨h1, cur, h2, h3, h4, h5⟩ := f
  refine ⟨h1.far (by simpa using hne) _, _, h2.set j _, by simpa using h3, by simpa using h4, fun i hi => ?_⟩
  rw [Array.getElem?_setIfInBounds, List.getElem_set]
  simp at hi
  by_cases e : j = i
  · subst e
    have hb := h5 j hj
    have hlt : j < cur.size := (Array.getElem?_eq_some_iff.1 hb).1
    simp [hlt]
  · rw [if_neg e, h5 i hi]
    simp [e]
end filt
theorem chg_set1 (w : World) (k i : Nat) (u : Value) : Chg (One k) w (w.setCell ⟨k, i, none⟩ u) := (Chg.refl (One k) w).setCell (p := ⟨k, i, none⟩) (fun _ => rfl) u
def RAdded (g h n c : Nat) (B : List UInt8) (w : World) (e : Ending) (w' : World) : Prop := e = .returned (.tuple #[]) ∧ RFilt w' g h n c B ∧ Chg (One h) w w'
set_option maxHeartbeats 1000000 in
theorem refAdd_any (g h n c kc : Nat) (A' : Option Addr) (B key : List UInt8) (w : World) (hF : RFilt w g h n c B) (hB : 8 ≤ n ∧ n ≤ 262144) (hk : Rd w A' key) (hl : key.length ≤ 140737488355328) :
    Calls Try.prog 76 #[.pointer (some ⟨g, 0, none⟩), .slice A' key.length kc] w (RAdded g h n c (addKey B key) w) := by
  have HF := Lib.hid hF
  have HK := Lib.hid hk
  have hg := hF.head
  obtain ⟨hB1, hB2⟩ := hB
  have HN := Lib.hid hF.len
  clear hF hk
  go_enter Try.func76, Try.ntmps76
  go_wp2_with fail
  refine (places_any A' kc key _ (8 * n) w HK.out hl (by simp) (by omega)).mono ?_
  rintro e w1 ⟨rfl, k1⟩
  have F1 := Lib.hid (HF.out.new k1)
  have K1 := Lib.hid k1
  clear k1 hg
  go_wp2_with fail
  go_loopw [5] (fun i wr => ∃ k : Nat, k ≤ 4 ∧ i = .int .i64 k ∧ Hid (RFilt wr g h n c (addUp B key k) ∧ Spots wr w1.heap.size key (8 * n) ∧ Chg (One h) w1 wr)) (fun i _ => 4 - (intOf i).toNat)
  case atStart => exact ⟨0, by omega, rfl, F1.out.new ((Chg.refl No w1).alloc _), At.new w1 _ _, ((Chg.refl No w1).alloc _).no⟩
  case round =>
    obtain ⟨k, hk, rfl, HR⟩ := hrel
    by_cases hlt : k < 4
    · have hgr := HR.out.1.head
      have hpk := HR.out.2.1.at_ hlt
      have hp8 := place_byte key k n (by omega)
      have hlen : n = (addUp B key k).length := HR.out.1.len
      have hpB : place key k (8 * n) / 8 < (addUp B key k).length := by omega
      have hcell := HR.out.1.bit hpB
      have hfr := HR.out.1.free (place key k (8 * n) / 8)
      have hpl := place_lt key k (8 * n) (by omega)
      have HS : Hid (RFilt (wr.setCell ⟨h, place key k (8 * n) / 8, none⟩ (.int .u8 (bits .or .u8 ((addUp B key k)[place key k (8 * n) / 8].toNat : Int) (2 ^ (place key k (8 * n) % 8) % 256)))) g h n c (addUp B key (k + 1))) := by
        have hset := HR.out.1.set _ hpB ((addUp B key k)[place key k (8 * n) / 8] ||| mask (place key k (8 * n)))
        have hup : addUp B key (k + 1) = setBit (addUp B key k) (place key k (8 * n)) := by rw [HN.out]; rfl
        rw [hup]
        generalize place key k (8 * n) = p at *
        have hm : ((2 : Int) ^ (p % 8) % 256) = ((mask p).toNat : Int) := by
          have h0 := (mask p).toNat_lt
          have h1 : ((2 ^ (p % 8) : Nat) : Int) = (2 : Int) ^ (p % 8) := by simp
          rw [← h1, ← mask_nat]
          omega
        have hval : bv ((addUp B key k)[p / 8] ||| mask p) = .int .u8 (bits .or .u8 ((addUp B key k)[p / 8].toNat : Int) ((mask p).toNat : Int)) := by
          rw [u8_or_nat _ _ (by have := (addUp B key k)[p / 8].toNat_lt; omega) (by have := (mask p).toNat_lt; omega)]
          simp [bv]
        have hsb : setBit (addUp B key k) p = (addUp B key k).set (p / 8) ((addUp B key k)[p / 8] ||| mask p) := by simp [setBit, List.getD_eq_getElem?_getD, hpB]
        rw [hm, ← hval, hsb]
        exact hset
      have HSP : Hid (w1.heap.size ≠ h) := Lib.hid (by have := F1.out.lt.2; omega)
      generalize place key k (8 * n) = p at *
      have hpi : (p : Int) / 8 < n := by omega
      have hpi0 : 0 ≤ (p : Int) / 8 := by omega
      go_wp2_with fail
      go_region
      go_wp2_with fail
      go_roundw
      case rel => exact ⟨k + 1, by omega, by go_num, HS.out.new ((Chg.refl No _).drew), At.chg (S := One h) HR.out.2.1 (chg_set1 wr h _ _).drew (fun e => HSP.out e), (HR.out.2.2.setCell (p := ⟨h, p / 8, none⟩) (fun _ => rfl) _).drew⟩
      case measure => simp [intOf]; omega
    · obtain rfl : k = 4 := by omega
      go_wp2_with fail
      go_end0
      exact ⟨rfl, HR.out.1, (K1.out.no).tr HR.out.2.2⟩
end Go.Proofs.Ytaoenbjfkahdjaa
