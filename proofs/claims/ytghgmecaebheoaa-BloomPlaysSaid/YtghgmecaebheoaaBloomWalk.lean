/- The filter's functions, each walked once: Size, New, From, each, Add, Has, Bytes. -/
import Derived.Test.YtghgmecaebheoaaProg
import Derived.Test.YtghgmecaebheoaaBloomFns
namespace Go.Proofs.Ytghgmecaebheoaa
open Go.RowKit
set_option linter.unusedVariables false

/-- Filter g (its one cell) over the row h: the bits B. -/
def Filt (w : World) (g h n c : Nat) (B : List UInt8) : Prop :=
  At w g 55 #[.slice (some ⟨h, 0, none⟩) n c] ∧ ∃ cur, At w h 5 cur ∧ n = B.length ∧ n ≤ cur.size ∧ ∀ j (hj : j < B.length), cur[j]? = some (bv B[j])
section filt
variable {w w' : World} {g h n c : Nat} {B : List UInt8}
theorem Filt.ne (f : Filt w g h n c B) : g ≠ h := by
  obtain ⟨h1, cur, h2, _⟩ := f
  exact h1.ne h2 (by decide)
theorem Filt.lt (f : Filt w g h n c B) : g < w.heap.size ∧ h < w.heap.size := by
  obtain ⟨h1, cur, h2, _⟩ := f
  exact ⟨h1.lt, h2.lt⟩
theorem Filt.len (f : Filt w g h n c B) : n = B.length := by
  obtain ⟨_, cur, _, h3, _⟩ := f
  exact h3
theorem Filt.chg {S : Nat → Prop} (f : Filt w g h n c B) (k : Chg S w w') (hg : ¬ S g) (hh : ¬ S h) : Filt w' g h n c B := by
  obtain ⟨h1, cur, h2, h3⟩ := f
  exact ⟨h1.chg k hg, cur, h2.chg k hh, h3⟩
theorem Filt.new (f : Filt w g h n c B) (k : Chg No w w') : Filt w' g h n c B := f.chg k id id
theorem Filt.head (f : Filt w g h n c B) : w.cell? ⟨g, 0, none⟩ = some (.slice (some ⟨h, 0, none⟩) n c) := by rw [f.1.cell]; rfl
theorem Filt.bit (f : Filt w g h n c B) {j : Nat} (hj : j < B.length) : w.cell? ⟨h, j, none⟩ = some (.int .u8 (B[j].toNat : Int)) := by
  obtain ⟨_, cur, h2, _, _, h5⟩ := f
  rw [h2.cell, h5 j hj]
  rfl
theorem Filt.free (f : Filt w g h n c B) (j : Nat) : w.frozen? ⟨h, j, none⟩ = false := by
  obtain ⟨_, cur, h2, _⟩ := f
  exact h2.frozen j
theorem Filt.rd (f : Filt w g h n c B) : Rd w (some ⟨h, 0, none⟩) B := by
  obtain ⟨_, cur, h2, _, _, h5⟩ := f
  exact RdV.of_at h2 fun j hj => by rw [h5 j (by simpa using hj)]; simp
theorem Filt.set (f : Filt w g h n c B) (j : Nat) (hj : j < B.length) (b : UInt8) : Filt (w.setCell ⟨h, j, none⟩ (bv b)) g h n c (B.set j b) := by
  have hne := f.ne
  obtain ⟨h1, cur, h2, h3, h4, h5⟩ := f
  refine ⟨h1.far (by simpa using hne) _, _, h2.set j _, by simpa using h3, by simpa using h4, fun i hi => ?_⟩
  simp only [List.length_set] at hi
  rw [Array.getElem?_setIfInBounds]
  by_cases e : j = i
  · subst e
    have hb := h5 j hj
    have hlt : j < cur.size := (Array.getElem?_eq_some_iff.1 hb).1
    simp [hlt]
  · rw [if_neg e, h5 i hi]
    simp [e]
end filt

theorem size_ok (k e : Int) (w : World) (h : 0 ≤ k ∧ k ≤ 65536 ∧ 1 ≤ e ∧ e ≤ 32) (hm : 0 ≤ k * e ∧ k * e ≤ 2097152) :
    Calls Try.prog 8 #[.int .i64 k, .int .i64 e] w fun x w' => x = .returned (.tuple #[.int .i64 ((max (k * e) 64 + 7) / 8 * 8), .int .i64 0]) ∧ w = w' := by
  obtain ⟨h1, h2, h3, h4⟩ := h
  obtain ⟨h5, h6⟩ := hm
  by_cases h7 : k * e < 64
  · have H1 := Lib.hid (show max (k * e) 64 = 64 by omega)
    go_enter Try.func8, Try.ntmps8
    go_wp2
    rw [H1.out]
    go_ret2
    exact ⟨rfl, rfl⟩
  · have H1 := Lib.hid (show max (k * e) 64 = k * e by omega)
    go_enter Try.func8, Try.ntmps8
    go_wp2
    rw [H1.out]
    go_ret2
    exact ⟨rfl, rfl⟩

theorem size_no (k e : Int) (w : World) (h : ¬ (0 ≤ k ∧ k ≤ 65536 ∧ 1 ≤ e ∧ e ≤ 32)) :
    Calls Try.prog 8 #[.int .i64 k, .int .i64 e] w fun x w' => x = .returned (.tuple #[.int .i64 0, .int .i64 60]) ∧ w = w' := by
  by_cases h1 : k < 0
  · go_enter Try.func8, Try.ntmps8
    go_wp2
    go_ret2
    exact ⟨rfl, rfl⟩
  by_cases h2 : 65536 < k
  · go_enter Try.func8, Try.ntmps8
    go_wp2
    go_ret2
    exact ⟨rfl, rfl⟩
  by_cases h3 : e < 1
  · go_enter Try.func8, Try.ntmps8
    go_wp2
    go_ret2
    exact ⟨rfl, rfl⟩
  have h4 : 32 < e := by omega
  clear h
  go_enter Try.func8, Try.ntmps8
  go_wp2
  go_ret2
  exact ⟨rfl, rfl⟩

/-! each -/
def EachPost (st : Nat → World → Prop) (go : Nat → Bool) (e : Ending) (w' : World) : Prop :=
  e = .returned (.bool (go 0 && go 1 && go 2 && go 3)) ∧ ∃ k, st k w' ∧ ((go 0 && go 1 && go 2 && go 3) = true → k = 4)

theorem xor_step (x : Nat) (c : UInt8) (hx : x < 18446744073709551616) : IntKind.u64.wrap (bits .xor .u64 (x : Int) (IntKind.u64.wrap (c.toNat : Int)) * 1099511628211) = (fnvStep x c : Int) := by
  have hc := c.toNat_lt
  have e1 : IntKind.u64.wrap (c.toNat : Int) = (c.toNat : Int) := by
    simp only [IntKind.wrap, IntKind.bits, IntKind.signed]
    simp
    omega
  rw [e1]
  rw [u64_xor_nat x c.toNat hx (by omega)]
  simp only [IntKind.wrap, IntKind.bits, IntKind.signed]
  unfold fnvStep
  simp
theorem or_step (key : List UInt8) : bits .or .u64 ((fnv key : Int) / 4294967296) 1 = (hop key : Int) := by
  have hf := fnv_lt key
  have : ((fnv key : Int) / 4294967296) = ((fnv key / 4294967296 : Nat) : Int) := by simp
  rw [this]
  exact u64_or_nat (fnv key / 4294967296) 1 (by omega) (by omega)

theorem mask_int (p : Nat) : ((mask p).toNat : Int) = 2 ^ (p % 8) % 256 := by
  have h := (mask p).toNat_lt
  have e : ((2 ^ (p % 8) : Nat) : Int) = (2 : Int) ^ (p % 8) := by simp
  rw [← e, ← mask_nat]
  omega
theorem wrap_add (a b : Nat) : IntKind.u64.wrap ((a : Int) + (b : Int)) = (((a + b) % 18446744073709551616 : Nat) : Int) := by
  simp [IntKind.wrap, IntKind.bits, IntKind.signed]
theorem each_false {st : Nat → World → Prop} {go : Nat → Bool} {k : Nat} {W : World} (hk : k < 4) (hst : st (k + 1) W) (hpre : ∀ j, j < k → go j = true) (hgo : go k = false) :
    EachPost st go (.returned (.bool false)) W := by
  have : (go 0 && go 1 && go 2 && go 3) = false := by
    match k, hk with
    | 0, _ => simp [hgo]
    | 1, _ => simp [hgo]
    | 2, _ => simp [hgo]
    | 3, _ => simp [hgo]
  exact ⟨by rw [this], k + 1, hst, fun h => by rw [this] at h; cases h⟩
theorem each_true {st : Nat → World → Prop} {go : Nat → Bool} {W : World} (hst : st 4 W) (hpre : ∀ j, j < 4 → go j = true) : EachPost st go (.returned (.bool true)) W :=
  ⟨by simp [hpre], 4, hst, fun _ => rfl⟩

theorem each_any (g h n c fid : Nat) (cap : Value) (st : Nat → World → Prop) (go : Nat → Bool) (A : Option Addr) (kc : Nat) (key : List UInt8) (w : World) (hn : 8 ≤ n ∧ n ≤ 262144) (hl : key.length ≤ 9223372036854775807)
    (hcf : ∀ args W, Sem.run Try.prog (callFunc fid args) W = .ok (.enter fid args) W)
    (hst : ∀ k W, st k W → W.cell? ⟨g, 0, none⟩ = some (.slice (some ⟨h, 0, none⟩) n c)) (hk : Rd w A key)
    (hcall : ∀ (k : Nat) (W : World) (a b : Int), k < 4 → st k W → a = ((place key k (8 * n) / 8 : Nat) : Int) → b = ((mask (place key k (8 * n))).toNat : Int) →
      Calls Try.prog fid #[.int .i64 a, .int .u8 b, cap] W fun e W' => e = .returned (.bool (go k)) ∧ st (k + 1) W')
    (h0 : st 0 w) :
    Calls Try.prog 28 #[.pointer (some ⟨g, 0, none⟩), .slice A key.length kc, .func (.func fid) #[] #[cap]] w (EachPost st go) := by
  have HK := Lib.hid hk; clear hk
  have HC := Lib.hid hcall; clear hcall
  have HS := Lib.hid hst; clear hst
  have H0 := Lib.hid h0; clear h0
  obtain ⟨hn1, hn2⟩ := hn
  go_enter Try.func28, Try.ntmps28
  go_wp2
  go_loop [7, 9, 14] (fun h _ i => ∃ k : Nat, k ≤ key.length ∧ i = .int .i64 k ∧ h = .int .u64 (fnv (key.take k))) (fun _ _ i => key.length - (intOf i).toNat)
  case atStart => exact ⟨0, by omega, rfl, rfl⟩
  case round =>
    obtain ⟨k, hk, rfl, rfl⟩ := hrel
    by_cases hlt : k < key.length
    · obtain ⟨b, o, rfl, hc⟩ := HK.out.get hlt
      have HX := Lib.hid (xor_step (fnv (key.take k)) key[k] (fnv_lt _))
      have HT := Lib.hid (fnv_take key k hlt)
      generalize key[k] = x at hc HX HT
      go_wp2
      go_round
      case rel => exact ⟨k + 1, by omega, by go_num, by rw [HT.out, ← HX.out]⟩
      case measure => simp [intOf]; omega
    · have ht : key.take k = key := List.take_of_length_le (by omega)
      rw [ht]
      clear ht
      have HO := Lib.hid (or_step key)
      go_wp2
      rw [HO.out]
      go_loopw [7, 11, 27] (fun x _ i wr => ∃ k : Nat, k ≤ 4 ∧ i = .int .i64 k ∧ x = .int .u64 (walkAt key k) ∧ Hid (st k wr ∧ ∀ j, j < k → go j = true)) (fun _ _ i _ => 4 - (intOf i).toNat)
      case atStart => exact ⟨0, by omega, rfl, by rw [walkAt_zero], H0.out, fun j hj => by omega⟩
      case round =>
        obtain ⟨k, hk, rfl, rfl, HR⟩ := hrel
        by_cases hlt : k < 4
        · have hc := HS.out _ _ HR.out.1
          have hpl : (walkAt key k : Int) % (8 * (n : Int)) = (place key k (8 * n) : Int) := by unfold place; simp
          have hp := place_lt key k (8 * n) (by omega)
          have HG := Lib.hid (fun W a b => HC.out k W a b hlt)
          generalize place key k (8 * n) = p at hpl hp HG
          have hm := mask_int p
          have HM := Lib.hid hm
          clear hm
          have HR := HR
          go_wp2_with fail
          refine (HG.out _ _ _ HR.out.1 (by simp) HM.out.symm).mono ?_
          rintro e W' ⟨rfl, hs⟩
          have HS' := Lib.hid hs
          clear hs
          rcases hgo : go k with _ | _
          · go_wp2
            go_ret
            exact each_false hlt HS'.out HR.out.2 hgo
          · have HG' := Lib.hid hgo
            clear hgo
            go_wp2
            go_roundw
            case rel =>
              refine ⟨k + 1, by omega, by go_num, ?_, HS'.out, fun j hj => ?_⟩
              · rw [walkAt_succ]
                exact congrArg (Value.int .u64) (wrap_add _ _)
              · rcases Nat.lt_succ_iff_lt_or_eq.1 hj with h | rfl
                · exact HR.out.2 j h
                · exact HG'.out
            case measure => simp [intOf]; omega
        · obtain rfl : k = 4 := by omega
          go_wp2
          go_ret
          exact each_true HR.out.1 HR.out.2
end Go.Proofs.Ytghgmecaebheoaa
