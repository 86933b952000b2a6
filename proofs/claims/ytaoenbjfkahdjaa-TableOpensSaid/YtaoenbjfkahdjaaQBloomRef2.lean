/- The document's filter: Has, Add, Size. -/
import Derived.Test.YtaoenbjfkahdjaaQBloomRef
namespace Go.Proofs.Ytaoenbjfkahdjaa
open Go.RowKit
set_option linter.unusedVariables false
set_option maxRecDepth 100000

theorem bit_test (B : List UInt8) (p : Nat) (h : p / 8 < B.length) : ((((B[p / 8].toNat : Int) / 2 ^ (p % 8)).tmod 2) == 0) = !hasBit B p := by
  rw [Int.tmod_eq_emod_of_nonneg (Int.ediv_nonneg (by omega) (by have := Int.pow_pos (n := 2) (m := p % 8) (by omega); omega))]
  have e : B.getD (p / 8) 0 = B[p / 8] := by simp [List.getD_eq_getElem?_getD, h]
  unfold hasBit
  rw [e]
  generalize B[p / 8] = x
  have hx : (x &&& mask p).toNat = x.toNat / 2 ^ (p % 8) % 2 * 2 ^ (p % 8) := by rw [UInt8.toNat_and, mask_nat]; exact nat_bit _ _
  have hpos := Nat.two_pow_pos (p % 8)
  have hcast : (x.toNat : Int) / 2 ^ (p % 8) % 2 = ((x.toNat / 2 ^ (p % 8) % 2 : Nat) : Int) := by simp
  rw [hcast]
  generalize x.toNat / 2 ^ (p % 8) % 2 = q at hx
  rw [Bool.eq_iff_iff]
  simp only [beq_iff_eq, Bool.not_eq_true', bne_eq_false_iff_eq]
  constructor
  · intro hq
    have : q = 0 := by omega
    subst this
    exact UInt8.toNat.inj (by simpa using hx)
  · intro h0
    rw [h0] at hx
    have hx0 : 0 = q * 2 ^ (p % 8) := by simpa using hx
    rcases Nat.eq_zero_or_pos q with hq | hq
    · simp [hq]
    · have := Nat.mul_pos hq hpos; omega

theorem hasKey_true {B key : List UInt8} (h : ∀ j, j < 4 → goBit B key j = true) : hasKey B key = true := by simp [hasKey, h]
theorem hasKey_false {B key : List UInt8} {k : Nat} (hk : k < 4) (h : goBit B key k = false) : hasKey B key = false := by
  match k, hk with
  | 0, _ => simp [hasKey, h]
  | 1, _ => simp [hasKey, h]
  | 2, _ => simp [hasKey, h]
  | 3, _ => simp [hasKey, h]
def Spots (w : World) (r : Nat) (key : List UInt8) (M : Nat) : Prop := At w r 142 #[.int .i64 (place key 0 M), .int .i64 (place key 1 M), .int .i64 (place key 2 M), .int .i64 (place key 3 M)]
theorem Spots.at_ {w : World} {r : Nat} {key : List UInt8} {M : Nat} (h : Spots w r key M) {k : Nat} (hk : k < 4) : w.cell? ⟨r, k, none⟩ = some (.int .i64 (place key k M)) := by
  rw [At.cell h]
  match k, hk with
  | 0, _ => rfl
  | 1, _ => rfl
  | 2, _ => rfl
  | 3, _ => rfl

set_option maxHeartbeats 1000000 in
theorem refHas_any (g n c kc : Nat) (A A' : Option Addr) (B key : List UInt8) (w : World) (hg : w.cell? ⟨g, 0, none⟩ = some (.slice A n c)) (hn : n = B.length) (hb : Rd w A B) (hB : 8 ≤ B.length ∧ B.length ≤ 262144) (hk : Rd w A' key) (hl : key.length ≤ 140737488355328) :
    Calls Try.prog 86 #[.pointer (some ⟨g, 0, none⟩), .slice A' key.length kc] w (Asked (hasKey B key) w) := by
  obtain ⟨hB1, hB2⟩ := hB
  obtain ⟨b, o, rfl, _⟩ := hb.get (j := 0) (by omega)
  have HB := Lib.hid hb
  have HK := Lib.hid hk
  have hn8 : 8 ≤ n ∧ n ≤ 262144 := by omega
  obtain ⟨hn1, hn2⟩ := hn8
  have HN := Lib.hid hn
  clear hb hk hn
  go_enter Try.func86, Try.ntmps86
  go_wp2_with fail
  refine (places_any A' kc key _ (8 * n) w HK.out hl (by simp) (by omega)).mono ?_
  rintro e w1 ⟨rfl, k1⟩
  have hg1 := k1.cell hg id
  have K1 := Lib.hid k1
  clear k1 hg
  go_wp2_with fail
  go_loopw [6] (fun i wr => ∃ k : Nat, k ≤ 4 ∧ i = .int .i64 k ∧ Hid ((∀ j, j < k → goBit B key j = true) ∧ Spots wr w1.heap.size key (8 * n) ∧ Chg No w1 wr)) (fun i _ => 4 - (intOf i).toNat)
  case atStart => exact ⟨0, by omega, rfl, fun j hj => by omega, At.new w1 _ _, (Chg.refl No w1).alloc _⟩
  case round =>
    obtain ⟨k, hk, rfl, HR⟩ := hrel
    by_cases hlt : k < 4
    · have hgr := HR.out.2.2.cell hg1 id
      have hpk := HR.out.2.1.at_ hlt
      have hp8 := place_byte key k n (by omega)
      have hpB : place key k (8 * n) / 8 < B.length := by have := HN.out; omega
      have hrd := ((HB.out.new K1.out).new HR.out.2.2)
      obtain ⟨b', o', e', hcell⟩ := hrd.get hpB
      injection e' with e'
      injection e' with eb eo
      subst eb
      subst eo
      have HT := Lib.hid (bit_test B (place key k (8 * n)) hpB)
      have hgo : hasBit B (place key k (8 * n)) = goBit B key k := by unfold goBit; rw [HN.out]
      rw [hgo] at HT
      clear hgo hrd
      have hpl := place_lt key k (8 * n) (by omega)
      generalize B[place key k (8 * n) / 8] = x at hcell HT
      generalize place key k (8 * n) = p at *
      have hx := x.toNat_lt
      have hpi : (p : Int) / 8 < n := by omega
      have hpi0 : 0 ≤ (p : Int) / 8 := by omega
      go_wp2_with fail
      go_quiet (fail)
      rcases hgo : goBit B key k with _ | _
      · have HF := Lib.hid (hasKey_false hlt hgo)
        have ht := HT.out
        rw [hgo, Bool.not_false] at ht
        clear hgo
        go_wp2_with fail
        go_ret
        exact ⟨by rw [HF.out]; rfl, (K1.out.tr HR.out.2.2).drewN _⟩
      · have HG := Lib.hid hgo
        have ht := HT.out
        rw [hgo, Bool.not_true] at ht
        clear hgo
        go_wp2_with fail
        go_roundw
        case rel =>
          refine ⟨k + 1, by omega, by go_num, fun j hj => ?_, HR.out.2.1, HR.out.2.2.drewN _⟩
          rcases Nat.lt_succ_iff_lt_or_eq.1 hj with h | rfl
          · exact HR.out.1 j h
          · exact HG.out
        case measure => simp [intOf]; omega
    · obtain rfl : k = 4 := by omega
      go_wp2_with fail
      go_ret
      exact ⟨by rw [hasKey_true HR.out.1]; rfl, K1.out.tr HR.out.2.2⟩
end Go.Proofs.Ytaoenbjfkahdjaa
