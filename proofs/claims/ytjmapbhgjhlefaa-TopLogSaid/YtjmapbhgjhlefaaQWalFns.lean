/- The log's plain functions: frames of a batch, what frames tell. No program in sight. -/
import Derived.Test.YtjmapbhgjhlefaaQ01
namespace Go.Proofs.Ytjmapbhgjhlefaa
open Go.RowKit
set_option linter.unusedVariables false
set_option maxRecDepth 100000

def needN (n : Nat) : Nat := if n ≤ 262144 then max ((n + 478) / 479) 1 else 0
def flagOf (i n : Nat) : UInt8 := (if i = 0 then 1 else 0) ||| (if i + 1 = n then 2 else 0)
def piece (b : List UInt8) (i : Nat) : List UInt8 := (b.take (min ((i + 1) * 479) b.length)).drop (i * 479)
def frame (b : List UInt8) (i : Nat) : List UInt8 := flagOf i (needN b.length) :: piece b i
def split (b : List UInt8) : List (List UInt8) := (List.range (needN b.length)).map (frame b)
/-- What frames tell, a batch under way or none. -/
def wholeFrom : Option (List UInt8) → List (List UInt8) → List (List UInt8)
  | _, [] => []
  | _, [] :: _ => []
  | cur, (c :: r) :: fs =>
    if 3 < c then [] else
      match (if c &&& 1 ≠ 0 then some [] else cur) with
      | none => wholeFrom none fs
      | some b => if c &&& 2 ≠ 0 then (b ++ r) :: wholeFrom none fs else wholeFrom (some (b ++ r)) fs
def whole (fs : List (List UInt8)) : List (List UInt8) := wholeFrom none fs
def longB (v : Int) (i : Nat) : UInt8 := UInt8.ofNat ((v + i + i / 256) % 256).toNat
def long (n : Nat) (v : Int) : List UInt8 := (List.range n).map (longB v)
theorem length_long (n : Nat) (v : Int) : (long n v).length = n := by simp [long]
theorem getElem_long (n : Nat) (v : Int) (i : Nat) (h : i < (long n v).length) : (long n v)[i] = longB v i := by simp [long]
theorem bv_longB (v : Int) (i : Nat) : bv (longB v i) = .int .u8 ((v + i + i / 256) % 256) := by
  unfold bv longB
  have h1 : 0 ≤ (v + i + i / 256) % 256 := Int.emod_nonneg _ (by omega)
  have h2 : (v + i + i / 256) % 256 < 256 := Int.emod_lt_of_pos _ (by omega)
  rw [UInt8.toNat_ofNat', Nat.mod_eq_of_lt (by omega)]
  congr 1
  omega

/-! The frames of a batch tell the batch, whatever stands ahead that is begun. -/
theorem flag_le (i n : Nat) : ¬ 3 < flagOf i n := by
  unfold flagOf
  split <;> split <;> decide
theorem flag_first (i n : Nat) : (flagOf i n &&& 1 ≠ 0) ↔ i = 0 := by
  unfold flagOf
  by_cases h1 : i = 0
  · rw [if_pos h1]
    by_cases h2 : i + 1 = n
    · rw [if_pos h2]; exact ⟨fun _ => h1, fun _ => by decide⟩
    · rw [if_neg h2]; exact ⟨fun _ => h1, fun _ => by decide⟩
  · rw [if_neg h1]
    by_cases h2 : i + 1 = n
    · rw [if_pos h2]; exact ⟨fun h => absurd (by decide) h, fun h => absurd h h1⟩
    · rw [if_neg h2]; exact ⟨fun h => absurd (by decide) h, fun h => absurd h h1⟩
theorem flag_last (i n : Nat) : (flagOf i n &&& 2 ≠ 0) ↔ i + 1 = n := by
  unfold flagOf
  by_cases h2 : i + 1 = n
  · rw [if_pos h2]
    by_cases h1 : i = 0
    · rw [if_pos h1]; exact ⟨fun _ => h2, fun _ => by decide⟩
    · rw [if_neg h1]; exact ⟨fun _ => h2, fun _ => by decide⟩
  · rw [if_neg h2]
    by_cases h1 : i = 0
    · rw [if_pos h1]; exact ⟨fun h => absurd (by decide) h, fun h => absurd h h2⟩
    · rw [if_neg h1]; exact ⟨fun h => absurd (by decide) h, fun h => absurd h h2⟩
theorem needN_pos (n : Nat) (h : n ≤ 262144) : 1 ≤ needN n := by unfold needN; rw [if_pos h]; omega
theorem needN_le (n : Nat) : needN n ≤ 548 := by unfold needN; split <;> omega
theorem needN_cover (n : Nat) (h : n ≤ 262144) : n ≤ needN n * 479 := by unfold needN; rw [if_pos h]; omega
theorem piece_len (b : List UInt8) (i : Nat) : (piece b i).length = min ((i + 1) * 479) b.length - i * 479 := by
  unfold piece
  rw [List.length_drop, List.length_take]
  omega
theorem take_cut (b : List UInt8) (a c : Nat) (h : a ≤ c) : b.take a ++ (b.take (min c b.length)).drop a = b.take c := by
  by_cases hc : c ≤ b.length
  · rw [Nat.min_eq_left hc]
    have e : b.take a = (b.take c).take a := by rw [List.take_take, Nat.min_eq_left h]
    rw [e, List.take_append_drop]
  · have hm : min c b.length = b.length := Nat.min_eq_right (by omega)
    rw [hm, List.take_of_length_le (Nat.le_refl b.length), List.take_append_drop, List.take_of_length_le (by omega)]
theorem take_piece (b : List UInt8) (i : Nat) : b.take (i * 479) ++ piece b i = b.take ((i + 1) * 479) := take_cut b _ _ (Nat.mul_le_mul_right _ (Nat.le_succ i))
/-- The frames from the i-th on, the first i read already. -/
theorem wholeFrom_rest (b : List UInt8) (hb : b.length ≤ 262144) (fs : List (List UInt8)) : ∀ (m i : Nat), i + m = needN b.length → 0 < i → 0 < m →
    wholeFrom (some (b.take (i * 479))) ((List.range' i m).map (frame b) ++ fs) = b :: wholeFrom none fs := by
  intro m
  induction m with
  | zero => intro i _ _ h; omega
  | succ m ih =>
    intro i him hi _
    rw [List.range'_succ, List.map_cons, List.cons_append]
    have h1 : ¬ (flagOf i (needN b.length) &&& 1 ≠ 0) := fun h => by have := (flag_first i (needN b.length)).1 h; omega
    show wholeFrom (some (b.take (i * 479))) ((flagOf i (needN b.length) :: piece b i) :: _) = _
    rw [wholeFrom, if_neg (flag_le _ _), if_neg h1]
    simp only
    rw [take_piece]
    by_cases hm : m = 0
    · subst hm
      have h2 : flagOf i (needN b.length) &&& 2 ≠ 0 := (flag_last i _).2 (by omega)
      rw [if_pos h2]
      have hc := needN_cover b.length hb
      rw [List.take_of_length_le (by have : i + 1 = needN b.length := by omega
                                     rw [this]; exact hc)]
      rfl
    · have h2 : ¬ (flagOf i (needN b.length) &&& 2 ≠ 0) := fun h => by have := (flag_last i (needN b.length)).1 h; omega
      rw [if_neg h2]
      exact ih (i + 1) (by omega) (by omega) (by omega)
theorem wholeFrom_split (b : List UInt8) (hb : b.length ≤ 262144) (cur : Option (List UInt8)) (fs : List (List UInt8)) : wholeFrom cur (split b ++ fs) = b :: wholeFrom none fs := by
  have hn := needN_pos b.length hb
  unfold split
  obtain ⟨m, hm⟩ : ∃ m, needN b.length = m + 1 := ⟨needN b.length - 1, by omega⟩
  rw [List.range_eq_range', hm, List.range'_succ, List.map_cons, List.cons_append]
  show wholeFrom cur ((flagOf 0 (needN b.length) :: piece b 0) :: _) = _
  rw [wholeFrom, if_neg (flag_le _ _), if_pos ((flag_first 0 _).2 rfl)]
  simp only
  have e : [] ++ piece b 0 = b.take (1 * 479) := by have := take_piece b 0; simpa using this
  rw [e]
  by_cases h0 : m = 0
  · subst h0
    rw [if_pos ((flag_last 0 _).2 (by omega))]
    have hc := needN_cover b.length hb
    rw [List.take_of_length_le (by rw [hm] at hc; omega)]
    rfl
  · rw [if_neg (fun h => by have := (flag_last 0 (needN b.length)).1 h; omega)]
    exact wholeFrom_rest b hb fs m 1 (by omega) (by omega) (by omega)
/-- Of a batch that is not ended nothing is told, nor of what comes behind it. -/
theorem wholeFrom_part (b : List UInt8) (hb : b.length ≤ 262144) (fs : List (List UInt8)) : ∀ (m i : Nat), i + m < needN b.length → 0 < i →
    ∃ c, wholeFrom (some (b.take (i * 479))) ((List.range' i m).map (frame b) ++ fs) = wholeFrom (some c) fs := by
  intro m
  induction m with
  | zero => intro i _ _; exact ⟨_, rfl⟩
  | succ m ih =>
    intro i him hi
    rw [List.range'_succ, List.map_cons, List.cons_append]
    have h1 : ¬ (flagOf i (needN b.length) &&& 1 ≠ 0) := fun h => by have := (flag_first i (needN b.length)).1 h; omega
    have h2 : ¬ (flagOf i (needN b.length) &&& 2 ≠ 0) := fun h => by have := (flag_last i (needN b.length)).1 h; omega
    show ∃ c, wholeFrom (some (b.take (i * 479))) ((flagOf i (needN b.length) :: piece b i) :: _) = _
    rw [wholeFrom, if_neg (flag_le _ _), if_neg h1]
    simp only
    rw [take_piece, if_neg h2]
    exact ih (i + 1) (by omega) (by omega)
theorem wholeFrom_cut (b : List UInt8) (hb : b.length ≤ 262144) (k : Nat) (hk : k < needN b.length) (cur : Option (List UInt8)) (fs : List (List UInt8)) :
    ∃ c, wholeFrom cur ((split b).take k ++ fs) = wholeFrom c fs := by
  rcases k with _ | k
  · exact ⟨cur, by simp⟩
  · unfold split
    rw [← List.map_take, List.take_range, Nat.min_eq_left (by omega), List.range_eq_range', List.range'_succ, List.map_cons, List.cons_append]
    show ∃ c, wholeFrom cur ((flagOf 0 (needN b.length) :: piece b 0) :: _) = _
    rw [wholeFrom, if_neg (flag_le _ _), if_pos ((flag_first 0 _).2 rfl)]
    simp only
    have e : [] ++ piece b 0 = b.take (1 * 479) := by have := take_piece b 0; simpa using this
    rw [e, if_neg (fun h => by have := (flag_last 0 (needN b.length)).1 h; omega)]
    obtain ⟨c, hc⟩ := wholeFrom_part b hb fs k 1 (by omega) (by omega)
    exact ⟨some c, hc⟩
theorem wholeFrom_nil (cur : Option (List UInt8)) : wholeFrom cur [] = [] := by cases cur <;> rfl
theorem whole_dropped (a b : List UInt8) (ha : a.length ≤ 262144) (hb : b.length ≤ 262144) (k : Nat) (hk : k < needN a.length) : whole ((split a).take k ++ split b) = [b] := by
  obtain ⟨c, hc⟩ := wholeFrom_cut a ha k hk none (split b)
  unfold whole
  rw [hc]
  have := wholeFrom_split b hb c []
  rw [List.append_nil] at this
  rw [this, wholeFrom_nil]
theorem length_split (b : List UInt8) : (split b).length = needN b.length := by simp [split]
end Go.Proofs.Ytjmapbhgjhlefaa
