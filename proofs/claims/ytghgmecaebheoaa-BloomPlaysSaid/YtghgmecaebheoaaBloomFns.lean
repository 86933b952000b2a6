/- The filter's plain functions: a key's places, a bit set, a bit asked, and what holds of them. No program in sight. -/
import Derived.Test.YtghgmecaebheoaaLib
namespace Go.Proofs.Ytghgmecaebheoaa
open Go.RowKit
set_option linter.unusedVariables false

def fnvStep (h : Nat) (c : UInt8) : Nat := ((h ^^^ c.toNat) * 1099511628211) % 18446744073709551616
def fnv (l : List UInt8) : Nat := l.foldl fnvStep 14695981039346656037
def hop (key : List UInt8) : Nat := fnv key / 4294967296 ||| 1
def walkAt (key : List UInt8) (i : Nat) : Nat := (fnv key + i * hop key) % 18446744073709551616
def place (key : List UInt8) (i m : Nat) : Nat := walkAt key i % m
def mask (p : Nat) : UInt8 := UInt8.ofNat (2 ^ (p % 8))
def setBit (B : List UInt8) (p : Nat) : List UInt8 := B.set (p / 8) (B.getD (p / 8) 0 ||| mask p)
def hasBit (B : List UInt8) (p : Nat) : Bool := (B.getD (p / 8) 0 &&& mask p) != 0
def addUp (B : List UInt8) (key : List UInt8) : Nat → List UInt8
  | 0 => B
  | k + 1 => setBit (addUp B key k) (place key k (8 * B.length))
def addKey (B : List UInt8) (key : List UInt8) : List UInt8 := addUp B key 4
def goBit (B : List UInt8) (key : List UInt8) (k : Nat) : Bool := hasBit B (place key k (8 * B.length))
def hasKey (B : List UInt8) (key : List UInt8) : Bool := goBit B key 0 && goBit B key 1 && goBit B key 2 && goBit B key 3
def addAll (B : List UInt8) (keys : List (List UInt8)) : List UInt8 := keys.foldl addKey B

theorem fnv_nil : fnv [] = 14695981039346656037 := rfl
theorem fnvStep_lt (h : Nat) (c : UInt8) : fnvStep h c < 18446744073709551616 := Nat.mod_lt _ (by omega)
theorem fnv_lt (l : List UInt8) : fnv l < 18446744073709551616 := by
  unfold fnv
  rcases List.eq_nil_or_concat l with rfl | ⟨l, c, rfl⟩
  · rw [List.foldl_nil]; omega
  · rw [List.concat_eq_append, List.foldl_append, List.foldl_cons, List.foldl_nil]; exact fnvStep_lt _ _
theorem fnv_take (l : List UInt8) (k : Nat) (h : k < l.length) : fnv (l.take (k + 1)) = fnvStep (fnv (l.take k)) l[k] := by
  unfold fnv
  rw [List.take_succ_eq_append_getElem h, List.foldl_append, List.foldl_cons, List.foldl_nil]
theorem hop_lt (key : List UInt8) : hop key < 4294967296 := by
  have := fnv_lt key
  exact Nat.or_lt_two_pow (n := 32) (by omega) (by omega)
theorem walkAt_lt (key : List UInt8) (i : Nat) : walkAt key i < 18446744073709551616 := Nat.mod_lt _ (by omega)
theorem walkAt_zero (key : List UInt8) : walkAt key 0 = fnv key := by
  unfold walkAt
  rw [Nat.zero_mul, Nat.add_zero, Nat.mod_eq_of_lt (fnv_lt key)]
theorem walkAt_succ (key : List UInt8) (i : Nat) : walkAt key (i + 1) = (walkAt key i + hop key) % 18446744073709551616 := by
  unfold walkAt
  rw [Nat.succ_mul, Nat.mod_add_mod, Nat.add_assoc]
theorem place_lt (key : List UInt8) (i m : Nat) (hm : 0 < m) : place key i m < m := Nat.mod_lt _ hm
theorem place_byte (key : List UInt8) (i n : Nat) (hn : 0 < n) : place key i (8 * n) / 8 < n := by
  have := place_lt key i (8 * n) (by omega)
  omega
theorem mask_nat (p : Nat) : (mask p).toNat = 2 ^ (p % 8) := by
  unfold mask
  have h : p % 8 < 8 := Nat.mod_lt _ (by omega)
  have : 2 ^ (p % 8) < 256 := by
    have := Nat.pow_lt_pow_right (a := 2) (by omega) h
    simpa using this
  simp [Nat.mod_eq_of_lt this]
theorem length_setBit (B : List UInt8) (p : Nat) : (setBit B p).length = B.length := by simp [setBit]
theorem length_addUp (B key : List UInt8) : ∀ k, (addUp B key k).length = B.length
  | 0 => rfl
  | k + 1 => by rw [addUp, length_setBit, length_addUp B key k]
theorem length_addKey (B key : List UInt8) : (addKey B key).length = B.length := length_addUp B key 4
theorem length_addAll (keys : List (List UInt8)) : ∀ B, (addAll B keys).length = B.length := by
  induction keys with
  | nil => intro B; rfl
  | cons k ks ih => intro B; show (addAll (addKey B k) ks).length = _; rw [ih, length_addKey]

/-! Order does not matter, nor how often. -/
theorem getD_setBit (B : List UInt8) (p i : Nat) : (setBit B p).getD i 0 = if i = p / 8 ∧ i < B.length then B.getD i 0 ||| mask p else B.getD i 0 := by
  unfold setBit
  simp only [List.getD_eq_getElem?_getD, List.getElem?_set]
  by_cases h : p / 8 = i
  · subst h
    by_cases hl : p / 8 < B.length
    · simp [hl]
    · simp [hl]
  · rw [if_neg h, if_neg (by omega)]
theorem ext_getD {A B : List UInt8} (hl : A.length = B.length) (h : ∀ i, i < A.length → A.getD i 0 = B.getD i 0) : A = B := by
  apply List.ext_getElem hl
  intro i h1 h2
  have := h i h1
  simpa [List.getD_eq_getElem?_getD, h1, h2] using this
theorem setBit_comm (B : List UInt8) (p q : Nat) : setBit (setBit B p) q = setBit (setBit B q) p := by
  apply ext_getD (by simp [length_setBit])
  intro i hi
  simp only [getD_setBit, length_setBit]
  generalize B.getD i 0 = x
  by_cases h1 : i = p / 8 ∧ i < B.length <;> by_cases h2 : i = q / 8 ∧ i < B.length
  · rw [if_pos h1, if_pos h2, if_pos h2, if_pos h1, UInt8.or_assoc, UInt8.or_comm (mask p), UInt8.or_assoc]
  · rw [if_pos h1, if_neg h2, if_neg h2, if_pos h1]
  · simp only [if_neg h1, if_pos h2]
  · simp only [if_neg h1, if_neg h2]
theorem setBit_twice (B : List UInt8) (p : Nat) : setBit (setBit B p) p = setBit B p := by
  apply ext_getD (by simp [length_setBit])
  intro i hi
  simp only [getD_setBit, length_setBit]
  generalize B.getD i 0 = x
  by_cases h1 : i = p / 8 ∧ i < B.length
  · rw [if_pos h1, if_pos h1, UInt8.or_assoc, UInt8.or_self]
  · rw [if_neg h1, if_neg h1]
def setAll (B : List UInt8) (ps : List Nat) : List UInt8 := ps.foldl setBit B
def places (key : List UInt8) (m : Nat) : List Nat := [place key 0 m, place key 1 m, place key 2 m, place key 3 m]
theorem addKey_eq (B key : List UInt8) : addKey B key = setAll B (places key (8 * B.length)) := rfl
theorem length_setAll (ps : List Nat) : ∀ B, (setAll B ps).length = B.length := by
  induction ps with
  | nil => intro B; rfl
  | cons p ps ih => intro B; show (setAll (setBit B p) ps).length = _; rw [ih, length_setBit]
theorem setAll_setBit (ps : List Nat) (p : Nat) : ∀ B, setAll (setBit B p) ps = setBit (setAll B ps) p := by
  induction ps with
  | nil => intro B; rfl
  | cons q ps ih => intro B; show setAll (setBit (setBit B p) q) ps = _; rw [setBit_comm, ih]; rfl
theorem setAll_comm (ps qs : List Nat) : ∀ B, setAll (setAll B ps) qs = setAll (setAll B qs) ps := by
  induction ps with
  | nil => intro B; rfl
  | cons p ps ih =>
    intro B
    show setAll (setAll (setBit B p) ps) qs = setAll (setBit (setAll B qs) p) ps
    rw [ih, ← setAll_setBit]
theorem setAll_in (ps : List Nat) (p : Nat) (h : p ∈ ps) : ∀ B, setBit (setAll B ps) p = setAll B ps := by
  induction ps with
  | nil => simp at h
  | cons q ps ih =>
    intro B
    show setBit (setAll (setBit B q) ps) p = setAll (setBit B q) ps
    rcases List.mem_cons.1 h with rfl | h
    · rw [← setAll_setBit, setBit_twice]
    · exact ih h _
theorem setAll_sub (qs ps : List Nat) (h : ∀ q ∈ qs, q ∈ ps) (B : List UInt8) : setAll (setAll B ps) qs = setAll B ps := by
  induction qs with
  | nil => rfl
  | cons q qs ih =>
    show setAll (setBit (setAll B ps) q) qs = _
    rw [setAll_in ps q (h q (by simp)), ih fun x hx => h x (by simp [hx])]
theorem addKey_comm (B k l : List UInt8) : addKey (addKey B k) l = addKey (addKey B l) k := by
  simp only [addKey_eq, length_setAll]
  exact setAll_comm _ _ _
theorem addKey_twice (B k : List UInt8) : addKey (addKey B k) k = addKey B k := by
  simp only [addKey_eq, length_setAll]
  exact setAll_sub _ _ (fun _ => id) _
theorem addAll_perm {ks ls : List (List UInt8)} (h : ks.Perm ls) (B : List UInt8) : addAll B ks = addAll B ls :=
  h.foldl_eq' (fun x _ y _ z => addKey_comm z x y) B
def twice (ks : List (List UInt8)) : List (List UInt8) := ks.flatMap fun k => [k, k]
theorem addAll_twice (ks : List (List UInt8)) : ∀ B, addAll B (twice ks) = addAll B ks := by
  induction ks with
  | nil => intro B; rfl
  | cons k ks ih =>
    intro B
    show addAll (addKey (addKey B k) k) (twice ks) = addAll (addKey B k) ks
    rw [addKey_twice, ih]
theorem addAll_append (B : List UInt8) (ks ls : List (List UInt8)) : addAll B (ks ++ ls) = addAll (addAll B ks) ls := List.foldl_append

/-! What was added is there. -/
theorem hasBit_setBit (B : List UInt8) (p : Nat) (h : p / 8 < B.length) : hasBit (setBit B p) p = true := by
  unfold hasBit
  rw [getD_setBit, if_pos ⟨rfl, h⟩]
  have : (B.getD (p / 8) 0 ||| mask p) &&& mask p = mask p := by
    apply UInt8.toNat.inj
    rw [UInt8.toNat_and, UInt8.toNat_or]
    apply Nat.eq_of_testBit_eq
    intro i
    simp only [Nat.testBit_and, Nat.testBit_or]
    cases Nat.testBit (mask p).toNat i <;> simp
  rw [this]
  simp only [bne_iff_ne, ne_eq]
  intro h0
  have := mask_nat p
  rw [h0] at this
  have := Nat.two_pow_pos (p % 8)
  simp at *
  omega
theorem hasBit_of_in (ps : List Nat) (p : Nat) (B : List UInt8) (hp : p ∈ ps) (h : p / 8 < B.length) : hasBit (setAll B ps) p = true := by
  rw [← setAll_in ps p hp]
  exact hasBit_setBit _ _ (by rw [length_setAll]; exact h)
theorem hasKey_iff (B key : List UInt8) : hasKey B key = true ↔ ∀ p ∈ places key (8 * B.length), hasBit B p = true := by
  simp [hasKey, goBit, places, and_assoc]
theorem addAll_eq (ks : List (List UInt8)) : ∀ B, addAll B ks = setAll B (ks.flatMap fun k => places k (8 * B.length)) := by
  induction ks with
  | nil => intro B; rfl
  | cons k ks ih =>
    intro B
    show addAll (addKey B k) ks = _
    rw [ih, length_addKey, addKey_eq]
    simp [setAll, List.foldl_append]
theorem hasKey_addAll (B : List UInt8) (ks : List (List UInt8)) (k : List UInt8) (hk : k ∈ ks) (hB : 0 < B.length) : hasKey (addAll B ks) k = true := by
  rw [hasKey_iff]
  intro p hp
  rw [length_addAll] at hp
  rw [addAll_eq]
  refine hasBit_of_in _ _ _ (List.mem_flatMap.2 ⟨k, hk, hp⟩) ?_
  simp only [places, List.mem_cons, List.not_mem_nil, or_false] at hp
  rcases hp with rfl | rfl | rfl | rfl <;> exact place_byte _ _ _ hB

end Go.Proofs.Ytghgmecaebheoaa
