/- Joined, as they were built one by one: BloomFns BloomWalk BloomMore TabFns OwnL Join Tab1. -/
import Derived.Test.YtaoenbjfkahdjaaProg
import Derived.Test.YtaoenbjfkahdjaaQ01
import Derived.Test.YtaoenbjfkahdjaaQ02
import Derived.Test.YtaoenbjfkahdjaaQ03
import Derived.Test.YtaoenbjfkahdjaaQ04
namespace Go.Proofs.Ytaoenbjfkahdjaa
open Go.RowKit
set_option linter.unusedVariables false
set_option maxRecDepth 100000

def fnvStep (h : Nat) (c : UInt8) : Nat := ((h ^^^ c.toNat) * 1099511628211) % 18446744073709551616
def fnv (l : List UInt8) : Nat := l.foldl fnvStep 14695981039346656037
def hop (key : List UInt8) : Nat := fnv key / 4294967296 ||| 1
def walkAt (key : List UInt8) (i : Nat) : Nat := (fnv key + i * hop key) % 18446744073709551616
def place (key : List UInt8) (i m : Nat) : Nat := walkAt key i % m
def mask (p : Nat) : UInt8 := UInt8.ofNat (2 ^ (p % 8))
def setBit (B : List UInt8) (p : Nat) : List UInt8 := B.set (p / 8) (B.getD (p / 8) 0 ||| mask p)
def hasBit (B : List UInt8) (p : Nat) : Bool := (B.getD (p / 8) 0 &&& mask p) != 0
def addUp (B : List UInt8) (key : List UInt8) : Nat → List UInt8
  | 0 => B
  | k + 1 => setBit (addUp B key k) (place key k (8 * B.length))
def addKey (B : List UInt8) (key : List UInt8) : List UInt8 := addUp B key 4
def goBit (B : List UInt8) (key : List UInt8) (k : Nat) : Bool := hasBit B (place key k (8 * B.length))
def hasKey (B : List UInt8) (key : List UInt8) : Bool := goBit B key 0 && goBit B key 1 && goBit B key 2 && goBit B key 3
def addAll (B : List UInt8) (keys : List (List UInt8)) : List UInt8 := keys.foldl addKey B

theorem fnv_nil : fnv [] = 14695981039346656037 := rfl
theorem fnvStep_lt (h : Nat) (c : UInt8) : fnvStep h c < 18446744073709551616 := Nat.mod_lt _ (by omega)
theorem fnv_lt (l : List UInt8) : fnv l < 18446744073709551616 := by
  unfold fnv
  rcases List.eq_nil_or_concat l with rfl | ⟨l, c, rfl⟩
  · rw [List.foldl_nil]; omega
  · rw [List.concat_eq_append, List.foldl_append, List.foldl_cons, List.foldl_nil]; exact fnvStep_lt _ _
theorem fnv_take (l : List UInt8) (k : Nat) (h : k < l.length) : fnv (l.take (k + 1)) = fnvStep (fnv (l.take k)) l[k] := by
  unfold fnv
  rw [List.take_succ_eq_append_getElem h, List.foldl_append, List.foldl_cons, List.foldl_nil]
theorem hop_lt (key : List UInt8) : hop key < 4294967296 := by
  have := fnv_lt key
  exact Nat.or_lt_two_pow (n := 32) (by omega) (by omega)
theorem walkAt_lt (key : List UInt8) (i : Nat) : walkAt key i < 18446744073709551616 := Nat.mod_lt _ (by omega)
theorem walkAt_zero (key : List UInt8) : walkAt key 0 = fnv key := by
  unfold walkAt
  rw [Nat.zero_mul, Nat.add_zero, Nat.mod_eq_of_lt (fnv_lt key)]
theorem walkAt_succ (key : List UInt8) (i : Nat) : walkAt key (i + 1) = (walkAt key i + hop key) % 18446744073709551616 := by
  unfold walkAt
  rw [Nat.succ_mul, Nat.mod_add_mod, Nat.add_assoc]
theorem place_lt (key : List UInt8) (i m : Nat) (hm : 0 < m) : place key i m < m := Nat.mod_lt _ hm
theorem place_byte (key : List UInt8) (i n : Nat) (hn : 0 < n) : place key i (8 * n) / 8 < n := by
  have := place_lt key i (8 * n) (by omega)
  omega
theorem mask_nat (p : Nat) : (mask p).toNat = 2 ^ (p % 8) := by
  unfold mask
  have h : p % 8 < 8 := Nat.mod_lt _ (by omega)
  have : 2 ^ (p % 8) < 256 := by
    have := Nat.pow_lt_pow_right (a := 2) (by omega) h
    simpa using this
  simp [Nat.mod_eq_of_lt this]
theorem length_setBit (B : List UInt8) (p : Nat) : (setBit B p).length = B.length := by simp [setBit]
theorem length_addUp (B key : List UInt8) : ∀ k, (addUp B key k).length = B.length
  | 0 => rfl
  | k + 1 => by rw [addUp, length_setBit, length_addUp B key k]
theorem length_addKey (B key : List UInt8) : (addKey B key).length = B.length := length_addUp B key 4
theorem length_addAll (keys : List (List UInt8)) : ∀ B, (addAll B keys).length = B.length := by
  induction keys with
  | nil => intro B; rfl
  | cons k ks ih => intro B; show (addAll (addKey B k) ks).length = _; rw [ih, length_addKey]

/-! Order does not matter, nor how often. -/
theorem getD_setBit (B : List UInt8) (p i : Nat) : (setBit B p).getD i 0 = if i = p / 8 ∧ i < B.length then B.getD i 0 ||| mask p else B.getD i 0 := by
  unfold setBit
  simp only [List.getD_eq_getElem?_getD, List.getElem?_set]
  by_cases h : p / 8 = i
  · subst h
    by_cases hl : p / 8 < B.length
    · simp [hl]
    · simp [hl]
  · rw [if_neg h, if_neg (by omega)]
theorem ext_getD {A B : List UInt8} (hl : A.length = B.length) (h : ∀ i, i < A.length → A.getD i 0 = B.getD i 0) : A = B := by
  apply List.ext_getElem hl
  intro i h1 h2
  have := h i h1
  simpa [List.getD_eq_getElem?_getD, h1, h2] using this
theorem setBit_comm (B : List UInt8) (p q : Nat) : setBit (setBit B p) q = setBit (setBit B q) p := by
  apply ext_getD (by simp [length_setBit])
  intro i hi
  simp only [getD_setBit, length_setBit]
  generalize B.getD i 0 = x
  by_cases h1 : i = p / 8 ∧ i < B.length <;> by_cases h2 : i = q / 8 ∧ i < B.length
  · rw [if_pos h1, if_pos h2, if_pos h2, if_pos h1, UInt8.or_assoc, UInt8.or_comm (mask p), UInt8.or_assoc]
  · rw [if_pos h1, if_neg h2, if_neg h2, if_pos h1]
  · simp only [if_neg h1, if_pos h2]
  · simp only [if_neg h1, if_neg h2]
theorem setBit_twice (B : List UInt8) (p : Nat) : setBit (setBit B p) p = setBit B p := by
  apply ext_getD (by simp [length_setBit])
  intro i hi
  simp only [getD_setBit, length_setBit]
  generalize B.getD i 0 = x
  by_cases h1 : i = p / 8 ∧ i < B.length
  · rw [if_pos h1, if_pos h1, UInt8.or_assoc, UInt8.or_self]
  · rw [if_neg h1, if_neg h1]
def setAll (B : List UInt8) (ps : List Nat) : List UInt8 := ps.foldl setBit B
def places (key : List UInt8) (m : Nat) : List Nat := [place key 0 m, place key 1 m, place key 2 m, place key 3 m]
theorem addKey_eq (B key : List UInt8) : addKey B key = setAll B (places key (8 * B.length)) := rfl
theorem length_setAll (ps : List Nat) : ∀ B, (setAll B ps).length = B.length := by
  induction ps with
  | nil => intro B; rfl
  | cons p ps ih => intro B; show (setAll (setBit B p) ps).length = _; rw [ih, length_setBit]
theorem setAll_setBit (ps : List Nat) (p : Nat) : ∀ B, setAll (setBit B p) ps = setBit (setAll B ps) p := by
  induction ps with
  | nil => intro B; rfl
  | cons q ps ih => intro B; show setAll (setBit (setBit B p) q) ps = _; rw [setBit_comm, ih]; rfl
theorem setAll_comm (ps qs : List Nat) : ∀ B, setAll (setAll B ps) qs = setAll (setAll B qs) ps := by
  induction ps with
  | nil => intro B; rfl
  | cons p ps ih =>
    intro B
    show setAll (setAll (setBit B p) ps) qs = setAll (setBit (setAll B qs) p) ps
    rw [ih, ← setAll_setBit]
theorem setAll_in (ps : List Nat) (p : Nat) (h : p ∈ ps) : ∀ B, setBit (setAll B ps) p = setAll B ps := by
  induction ps with
  | nil => simp at h
  | cons q ps ih =>
    intro B
    show setBit (setAll (setBit B q) ps) p = setAll (setBit B q) ps
    rcases List.mem_cons.1 h with rfl | h
    · rw [← setAll_setBit, setBit_twice]
    · exact ih h _
theorem setAll_sub (qs ps : List Nat) (h : ∀ q ∈ qs, q ∈ ps) (B : List UInt8) : setAll (setAll B ps) qs = setAll B ps := by
  induction qs with
  | nil => rfl
  | cons q qs ih =>
    show setAll (setBit (setAll B ps) q) qs = _
    rw [setAll_in ps q (h q (by simp)), ih fun x hx => h x (by simp [hx])]
theorem addKey_comm (B k l : List UInt8) : addKey (addKey B k) l = addKey (addKey B l) k := by
  simp only [addKey_eq, length_setAll]
  exact setAll_comm _ _ _
theorem addKey_twice (B k : List UInt8) : addKey (addKey B k) k = addKey B k := by
  simp only [addKey_eq, length_setAll]
  exact setAll_sub _ _ (fun _ => id) _
theorem addAll_perm {ks ls : List (List UInt8)} (h : ks.Perm ls) (B : List UInt8) : addAll B ks = addAll B ls :=
  h.foldl_eq' (fun x _ y _ z => addKey_comm z x y) B
def twiceK (ks : List (List UInt8)) : List (List UInt8) := ks.flatMap fun k => [k, k]
theorem addAll_twice (ks : List (List UInt8)) : ∀ B, addAll B (twiceK ks) = addAll B ks := by
  induction ks with
  | nil => intro B; rfl
  | cons k ks ih =>
    intro B
    show addAll (addKey (addKey B k) k) (twiceK ks) = addAll (addKey B k) ks
    rw [addKey_twice, ih]
theorem addAll_append (B : List UInt8) (ks ls : List (List UInt8)) : addAll B (ks ++ ls) = addAll (addAll B ks) ls := List.foldl_append

/-! What was added is there. -/
theorem hasBit_setBit (B : List UInt8) (p : Nat) (h : p / 8 < B.length) : hasBit (setBit B p) p = true := by
  unfold hasBit
  rw [getD_setBit, if_pos ⟨rfl, h⟩]
  have : (B.getD (p / 8) 0 ||| mask p) &&& mask p = mask p := by
    apply UInt8.toNat.inj
    rw [UInt8.toNat_and, UInt8.toNat_or]
    apply Nat.eq_of_testBit_eq
    intro i
    simp only [Nat.testBit_and, Nat.testBit_or]
    cases Nat.testBit (mask p).toNat i <;> simp
  rw [this]
  simp only [bne_iff_ne, ne_eq]
  intro h0
  have := mask_nat p
  rw [h0] at this
  have := Nat.two_pow_pos (p % 8)
  simp at *
  omega
theorem hasBit_of_in (ps : List Nat) (p : Nat) (B : List UInt8) (hp : p ∈ ps) (h : p / 8 < B.length) : hasBit (setAll B ps) p = true := by
  rw [← setAll_in ps p hp]
  exact hasBit_setBit _ _ (by rw [length_setAll]; exact h)
theorem hasKey_iff (B key : List UInt8) : hasKey B key = true ↔ ∀ p ∈ places key (8 * B.length), hasBit B p = true := by
  simp [hasKey, goBit, places, and_assoc]
theorem addAll_eq (ks : List (List UInt8)) : ∀ B, addAll B ks = setAll B (ks.flatMap fun k => places k (8 * B.length)) := by
  induction ks with
  | nil => intro B; rfl
  | cons k ks ih =>
    intro B
    show addAll (addKey B k) ks = _
    rw [ih, length_addKey, addKey_eq]
    simp [setAll, List.foldl_append]
theorem hasKey_addAll (B : List UInt8) (ks : List (List UInt8)) (k : List UInt8) (hk : k ∈ ks) (hB : 0 < B.length) : hasKey (addAll B ks) k = true := by
  rw [hasKey_iff]
  intro p hp
  rw [length_addAll] at hp
  rw [addAll_eq]
  refine hasBit_of_in _ _ _ (List.mem_flatMap.2 ⟨k, hk, hp⟩) ?_
  simp only [places, List.mem_cons, List.not_mem_nil, or_false] at hp
  rcases hp with rfl | rfl | rfl | rfl <;> exact place_byte _ _ _ hB

end Go.Proofs.Ytaoenbjfkahdjaa
namespace Go.Proofs.Ytaoenbjfkahdjaa
open Go.RowKit
set_option linter.unusedVariables false
set_option maxRecDepth 100000

/-- Filter g (its one cell) over the row h: the bits B. -/
def Filt (w : World) (g h n c : Nat) (B : List UInt8) : Prop :=
  At w g 139 #[.slice (some ⟨h, 0, none⟩) n c] ∧ ∃ cur, At w h 5 cur ∧ n = B.length ∧ n ≤ cur.size ∧ ∀ j (hj : j < B.length), cur[j]? = some (bv B[j])
section filt
variable {w w' : World} {g h n c : Nat} {B : List UInt8}
theorem Filt.ne (f : Filt w g h n c B) : g ≠ h := by
  obtain ⟨h1, cur, h2, _⟩ := f
  exact h1.ne h2 (by decide)
theorem Filt.lt (f : Filt w g h n c B) : g < w.heap.size ∧ h < w.heap.size := by
  obtain ⟨h1, cur, h2, _⟩ := f
  exact ⟨h1.lt, h2.lt⟩
theorem Filt.len (f : Filt w g h n c B) : n = B.length := by
  obtain ⟨_, cur, _, h3, _⟩ := f
  exact h3
theorem Filt.chg {S : Nat → Prop} (f : Filt w g h n c B) (k : Chg S w w') (hg : ¬ S g) (hh : ¬ S h) : Filt w' g h n c B := by
  obtain ⟨h1, cur, h2, h3⟩ := f
  exact ⟨h1.chg k hg, cur, h2.chg k hh, h3⟩
theorem Filt.new (f : Filt w g h n c B) (k : Chg No w w') : Filt w' g h n c B := f.chg k id id
theorem Filt.head (f : Filt w g h n c B) : w.cell? ⟨g, 0, none⟩ = some (.slice (some ⟨h, 0, none⟩) n c) := by rw [f.1.cell]; rfl
theorem Filt.bit (f : Filt w g h n c B) {j : Nat} (hj : j < B.length) : w.cell? ⟨h, j, none⟩ = some (.int .u8 (B[j].toNat : Int)) := by
  obtain ⟨_, cur, h2, _, _, h5⟩ := f
  rw [h2.cell, h5 j hj]
  rfl
theorem Filt.free (f : Filt w g h n c B) (j : Nat) : w.frozen? ⟨h, j, none⟩ = false := by
  obtain ⟨_, cur, h2, _⟩ := f
  exact h2.frozen j
theorem Filt.rd (f : Filt w g h n c B) : Rd w (some ⟨h, 0, none⟩) B := by
  obtain ⟨_, cur, h2, _, _, h5⟩ := f
  exact RdV.of_at h2 fun j hj => by rw [h5 j (by simpa using hj)]; simp
theorem Filt.set (f : Filt w g h n c B) (j : Nat) (hj : j < B.length) (b : UInt8) : Filt (w.setCell ⟨h, j, none⟩ (bv b)) g h n c (B.set j b) := by
  have hne := f.ne
  obtain ⟨h1, cur, h2, h3, h4, h5⟩ := f
  refine ⟨h1.far (by simpa using hne) _, _, h2.set j _, by simpa using h3, by simpa using h4, fun i hi => ?_⟩
  simp only [List.length_set] at hi
  rw [Array.getElem?_setIfInBounds]
  by_cases e : j = i
  · subst e
    have hb := h5 j hj
    have hlt : j < cur.size := (Array.getElem?_eq_some_iff.1 hb).1
    simp [hlt]
  · rw [if_neg e, h5 i hi]
    simp [e]
end filt

theorem size_ok (k e : Int) (w : World) (h : 0 ≤ k ∧ k ≤ 65536 ∧ 1 ≤ e ∧ e ≤ 32) (hm : 0 ≤ k * e ∧ k * e ≤ 2097152) :
    Calls Try.prog 106 #[.int .i64 k, .int .i64 e] w fun x w' => x = .returned (.tuple #[.int .i64 ((max (k * e) 64 + 7) / 8 * 8), .int .i64 0]) ∧ w = w' := by
  obtain ⟨h1, h2, h3, h4⟩ := h
  obtain ⟨h5, h6⟩ := hm
  by_cases h7 : k * e < 64
  · have H1 := Lib.hid (show max (k * e) 64 = 64 by omega)
    go_enter Try.func106, Try.ntmps106
    go_wp2
    rw [H1.out]
    go_ret2
    exact ⟨rfl, rfl⟩
  · have H1 := Lib.hid (show max (k * e) 64 = k * e by omega)
    go_enter Try.func106, Try.ntmps106
    go_wp2
    rw [H1.out]
    go_ret2
    exact ⟨rfl, rfl⟩

theorem size_no (k e : Int) (w : World) (h : ¬ (0 ≤ k ∧ k ≤ 65536 ∧ 1 ≤ e ∧ e ≤ 32)) :
    Calls Try.prog 106 #[.int .i64 k, .int .i64 e] w fun x w' => x = .returned (.tuple #[.int .i64 0, .int .i64 60]) ∧ w = w' := by
  by_cases h1 : k < 0
  · go_enter Try.func106, Try.ntmps106
    go_wp2
    go_ret2
    exact ⟨rfl, rfl⟩
  by_cases h2 : 65536 < k
  · go_enter Try.func106, Try.ntmps106
    go_wp2
    go_ret2
    exact ⟨rfl, rfl⟩
  by_cases h3 : e < 1
  · go_enter Try.func106, Try.ntmps106
    go_wp2
    go_ret2
    exact ⟨rfl, rfl⟩
  have h4 : 32 < e := by omega
  clear h
  go_enter Try.func106, Try.ntmps106
  go_wp2
  go_ret2
  exact ⟨rfl, rfl⟩

/-! each -/
def EachPost (st : Nat → World → Prop) (go : Nat → Bool) (e : Ending) (w' : World) : Prop :=
  e = .returned (.bool (go 0 && go 1 && go 2 && go 3)) ∧ ∃ k, st k w' ∧ ((go 0 && go 1 && go 2 && go 3) = true → k = 4)

theorem xor_step (x : Nat) (c : UInt8) (hx : x < 18446744073709551616) : IntKind.u64.wrap (bits .xor .u64 (x : Int) (IntKind.u64.wrap (c.toNat : Int)) * 1099511628211) = (fnvStep x c : Int) := by
  have hc := c.toNat_lt
  have e1 : IntKind.u64.wrap (c.toNat : Int) = (c.toNat : Int) := by
    simp only [IntKind.wrap, IntKind.bits, IntKind.signed]
    simp
    omega
  rw [e1]
  rw [u64_xor_nat x c.toNat hx (by omega)]
  simp only [IntKind.wrap, IntKind.bits, IntKind.signed]
  unfold fnvStep
  simp
theorem or_step (key : List UInt8) : bits .or .u64 ((fnv key : Int) / 4294967296) 1 = (hop key : Int) := by
  have hf := fnv_lt key
  have : ((fnv key : Int) / 4294967296) = ((fnv key / 4294967296 : Nat) : Int) := by simp
  rw [this]
  exact u64_or_nat (fnv key / 4294967296) 1 (by omega) (by omega)

theorem mask_int (p : Nat) : ((mask p).toNat : Int) = 2 ^ (p % 8) % 256 := by
  have h := (mask p).toNat_lt
  have e : ((2 ^ (p % 8) : Nat) : Int) = (2 : Int) ^ (p % 8) := by simp
  rw [← e, ← mask_nat]
  omega
theorem wrap_add (a b : Nat) : IntKind.u64.wrap ((a : Int) + (b : Int)) = (((a + b) % 18446744073709551616 : Nat) : Int) := by
  simp [IntKind.wrap, IntKind.bits, IntKind.signed]
theorem each_false {st : Nat → World → Prop} {go : Nat → Bool} {k : Nat} {W : World} (hk : k < 4) (hst : st (k + 1) W) (hpre : ∀ j, j < k → go j = true) (hgo : go k = false) :
    EachPost st go (.returned (.bool false)) W := by
  have : (go 0 && go 1 && go 2 && go 3) = false := by
    match k, hk with
    | 0, _ => simp [hgo]
    | 1, _ => simp [hgo]
    | 2, _ => simp [hgo]
    | 3, _ => simp [hgo]
  exact ⟨by rw [this], k + 1, hst, fun h => by rw [this] at h; cases h⟩
theorem each_true {st : Nat → World → Prop} {go : Nat → Bool} {W : World} (hst : st 4 W) (hpre : ∀ j, j < 4 → go j = true) : EachPost st go (.returned (.bool true)) W :=
  ⟨by simp [hpre], 4, hst, fun _ => rfl⟩

theorem each_any (g h n c fid : Nat) (cap : Value) (st : Nat → World → Prop) (go : Nat → Bool) (A : Option Addr) (kc : Nat) (key : List UInt8) (w : World) (hn : 8 ≤ n ∧ n ≤ 262144) (hl : key.length ≤ 9223372036854775807)
    (hcf : ∀ args W, Sem.run Try.prog (callFunc fid args) W = .ok (.enter fid args) W)
    (hst : ∀ k W, st k W → W.cell? ⟨g, 0, none⟩ = some (.slice (some ⟨h, 0, none⟩) n c)) (hk : Rd w A key)
    (hcall : ∀ (k : Nat) (W : World) (a b : Int), k < 4 → st k W → a = ((place key k (8 * n) / 8 : Nat) : Int) → b = ((mask (place key k (8 * n))).toNat : Int) →
      Calls Try.prog fid #[.int .i64 a, .int .u8 b, cap] W fun e W' => e = .returned (.bool (go k)) ∧ st (k + 1) W')
    (h0 : st 0 w) :
    Calls Try.prog 103 #[.pointer (some ⟨g, 0, none⟩), .slice A key.length kc, .func (.func fid) #[] #[cap]] w (EachPost st go) := by
  have HK := Lib.hid hk; clear hk
  have HC := Lib.hid hcall; clear hcall
  have HS := Lib.hid hst; clear hst
  have H0 := Lib.hid h0; clear h0
  obtain ⟨hn1, hn2⟩ := hn
  go_enter Try.func103, Try.ntmps103
  go_wp2
  go_loop [7, 9, 14] (fun h _ i => ∃ k : Nat, k ≤ key.length ∧ i = .int .i64 k ∧ h = .int .u64 (fnv (key.take k))) (fun _ _ i => key.length - (intOf i).toNat)
  case atStart => exact ⟨0, by omega, rfl, rfl⟩
  case round =>
    obtain ⟨k, hk, rfl, rfl⟩ := hrel
    by_cases hlt : k < key.length
    · obtain ⟨b, o, rfl, hc⟩ := HK.out.get hlt
      have HX := Lib.hid (xor_step (fnv (key.take k)) key[k] (fnv_lt _))
      have HT := Lib.hid (fnv_take key k hlt)
      generalize key[k] = x at hc HX HT
      go_wp2
      go_round
      case rel => exact ⟨k + 1, by omega, by go_num, by rw [HT.out, ← HX.out]⟩
      case measure => simp [intOf]; omega
    · have ht : key.take k = key := List.take_of_length_le (by omega)
      rw [ht]
      clear ht
      have HO := Lib.hid (or_step key)
      go_wp2
      rw [HO.out]
      go_loopw [7, 11, 27] (fun x _ i wr => ∃ k : Nat, k ≤ 4 ∧ i = .int .i64 k ∧ x = .int .u64 (walkAt key k) ∧ Hid (st k wr ∧ ∀ j, j < k → go j = true)) (fun _ _ i _ => 4 - (intOf i).toNat)
      case atStart => exact ⟨0, by omega, rfl, by rw [walkAt_zero], H0.out, fun j hj => by omega⟩
      case round =>
        obtain ⟨k, hk, rfl, rfl, HR⟩ := hrel
        by_cases hlt : k < 4
        · have hc := HS.out _ _ HR.out.1
          have hpl : (walkAt key k : Int) % (8 * (n : Int)) = (place key k (8 * n) : Int) := by unfold place; simp
          have hp := place_lt key k (8 * n) (by omega)
          have HG := Lib.hid (fun W a b => HC.out k W a b hlt)
          generalize place key k (8 * n) = p at hpl hp HG
          have hm := mask_int p
          have HM := Lib.hid hm
          clear hm
          have HR := HR
          go_wp2_with fail
          refine (HG.out _ _ _ HR.out.1 (by simp) HM.out.symm).mono ?_
          rintro e W' ⟨rfl, hs⟩
          have HS' := Lib.hid hs
          clear hs
          rcases hgo : go k with _ | _
          · go_wp2
            go_ret
            exact each_false hlt HS'.out HR.out.2 hgo
          · have HG' := Lib.hid hgo
            clear hgo
            go_wp2
            go_roundw
            case rel =>
              refine ⟨k + 1, by omega, by go_num, ?_, HS'.out, fun j hj => ?_⟩
              · rw [walkAt_succ]
                exact congrArg (Value.int .u64) (wrap_add _ _)
              · rcases Nat.lt_succ_iff_lt_or_eq.1 hj with h | rfl
                · exact HR.out.2 j h
                · exact HG'.out
            case measure => simp [intOf]; omega
        · obtain rfl : k = 4 := by omega
          go_wp2
          go_ret
          exact each_true HR.out.1 HR.out.2
end Go.Proofs.Ytaoenbjfkahdjaa
namespace Go.Proofs.Ytaoenbjfkahdjaa
open Go.RowKit
set_option linter.unusedVariables false
set_option maxRecDepth 100000

def nbytes (k e : Int) : Nat := ((max (k * e) 64 + 7) / 8).toNat
theorem nbytes_le (k e : Int) (h : 0 ≤ k ∧ k ≤ 65536 ∧ 1 ≤ e ∧ e ≤ 32) : (0 ≤ k * e ∧ k * e ≤ 2097152) ∧ 8 ≤ nbytes k e ∧ nbytes k e ≤ 262144 := by
  obtain ⟨h1, h2, h3, h4⟩ := h
  have a1 : 0 ≤ k * e := Int.mul_nonneg h1 (by omega)
  have a2 : k * e ≤ 65536 * 32 := Int.mul_le_mul h2 h4 (by omega) (by omega)
  have a3 : k * e ≤ 2097152 := by omega
  refine ⟨⟨a1, a3⟩, ?_⟩
  unfold nbytes
  omega
theorem size_yes (k e : Int) (w : World) (h : 0 ≤ k ∧ k ≤ 65536 ∧ 1 ≤ e ∧ e ≤ 32) :
    Calls Try.prog 106 #[.int .i64 k, .int .i64 e] w fun x w' => x = .returned (.tuple #[.int .i64 (8 * (nbytes k e : Int)), .int .i64 0]) ∧ w = w' := by
  obtain ⟨hm, h8, _⟩ := nbytes_le k e h
  refine (size_ok k e w h hm).mono fun x w' hx => ?_
  obtain ⟨rfl, rfl⟩ := hx
  have : (max (k * e) 64 + 7) / 8 * 8 = 8 * (nbytes k e : Int) := by unfold nbytes; omega
  exact ⟨by rw [this], rfl⟩

theorem run_make_u8 (n : Nat) (hn : n ≤ 262145) (W : World) : (Instr.makeSlice 32 (.int .i64 (n : Int)) (.int .i64 (n : Int))).run Try.prog W =
    .ok (.slice (some ⟨W.heap.size, 0, none⟩) n n) (W.alloc (.cells (madeCells #[.int .u8 0] n) 5)) := by
  obtain ⟨i0, hi, hz0, hz1, hz2⟩ := info_parts info_u8
  have hr := run_make (P := Try.prog) W 32 5 i0 _ Try.underlying32 hi hz0 .i64 .i64 n n (by omega) (Int.le_refl _) (by rw [hz2]; omega) (by omega)
  have hc : (Value.int .u8 0).cells = #[.int .u8 0] := rfl
  simpa [hz1, hc] using hr

/-- New, of sizes that it takes. -/
def FreshB (n : Nat) (w : World) (x : Ending) (w' : World) : Prop :=
  ∃ g h, x = .returned (.tuple #[.pointer (some ⟨g, 0, none⟩), .int .i64 0]) ∧ Filt w' g h n n (List.replicate n 0) ∧ w.heap.size ≤ g ∧ w.heap.size ≤ h ∧ Chg No w w'
theorem new_yes (k e : Int) (w : World) (h : 0 ≤ k ∧ k ≤ 65536 ∧ 1 ≤ e ∧ e ≤ 32) :
    Calls Try.prog 92 #[.int .i64 k, .int .i64 e] w (FreshB (nbytes k e) w) := by
  have HS := Lib.hid (fun w => size_yes k e w h)
  obtain ⟨_, h8, h9⟩ := nbytes_le k e h
  clear h
  generalize nbytes k e = n at HS h8 h9
  have hmk := fun W => run_make_u8 n (by omega) W
  have hq : 8 * (n : Int) / 8 = (n : Int) := by omega
  go_enter Try.func92, Try.ntmps92
  go_wp2_with (go_at_call 106; refine (HS.out _).mono ?_; rintro e w' ⟨rfl, rfl⟩)
  go_ret2
  refine ⟨w.heap.size + 1, w.heap.size, rfl, ⟨by simpa using At.new (w.alloc _) _ _, _, (At.new w _ _).alloc _, by simp, by simp [madeCells], fun j hj => ?_⟩, by omega, by omega, (((Chg.refl No w).alloc _).alloc _)⟩
  simp at hj
  simp [madeCells, hj, bv, Nat.mod_one]
theorem new_no (k e : Int) (w : World) (h : ¬ (0 ≤ k ∧ k ≤ 65536 ∧ 1 ≤ e ∧ e ≤ 32)) :
    Calls Try.prog 92 #[.int .i64 k, .int .i64 e] w fun x w' => x = .returned (.tuple #[.pointer none, .int .i64 60]) ∧ w = w' := by
  have HS := Lib.hid (fun w => size_no k e w h)
  clear h
  go_enter Try.func92, Try.ntmps92
  go_wp2_with (go_at_call 106; refine (HS.out _).mono ?_; rintro e w' ⟨rfl, rfl⟩)
  go_ret2
  exact ⟨rfl, rfl⟩

/-! the closures -/
theorem add1_any (bx g h n c p : Nat) (B : List UInt8) (w : World) (a b : Int) (hF : Filt w g h n c B) (hbx : w.cell? ⟨bx, 0, none⟩ = some (.pointer (some ⟨g, 0, none⟩)))
    (hp : p / 8 < B.length) (hmax : B.length ≤ 262144) (ha : a = ((p / 8 : Nat) : Int)) (hb : b = ((mask p).toNat : Int)) :
    Calls Try.prog 107 #[.int .i64 a, .int .u8 b, .pointer (some ⟨bx, 0, none⟩)] w fun e w' => e = .returned (.bool true) ∧ (Filt w' g h n c (setBit B p) ∧ Chg (One h) w w') := by
  subst ha
  subst hb
  have h2 := hF.head
  have h3 := hF.bit hp
  have h4 := hF.free (p / 8)
  have hset := hF.set (p / 8) hp (B[p / 8] ||| mask p)
  have hlen := hF.len
  have hpn : p / 8 < n := by omega
  have hn : n ≤ 262144 := by omega
  have hval : bv (B[p / 8] ||| mask p) = .int .u8 (bits .or .u8 (B[p / 8].toNat : Int) ((mask p).toNat : Int)) := by
    rw [u8_or_nat _ _ (by have := B[p / 8].toNat_lt; omega) (by have := (mask p).toNat_lt; omega)]
    simp [bv]
  have hsb : setBit B p = B.set (p / 8) (B[p / 8] ||| mask p) := by simp [setBit, List.getD_eq_getElem?_getD, hp]
  rw [hval, ← hsb] at hset
  have HF := Lib.hid hset
  clear hset hval hsb hF hlen
  generalize B[p / 8] = x at *
  generalize p / 8 = j at *
  generalize mask p = m at *
  go_enter Try.func107, Try.ntmps107
  go_wp2
  go_ret
  exact ⟨rfl, HF.out, (Chg.refl (One h) w).setCell (p := ⟨h, j, none⟩) (fun _ => rfl) _⟩
theorem has1_any (bx g h n c p : Nat) (B : List UInt8) (w : World) (a b : Int) (hF : Filt w g h n c B) (hbx : w.cell? ⟨bx, 0, none⟩ = some (.pointer (some ⟨g, 0, none⟩)))
    (hp : p / 8 < B.length) (hmax : B.length ≤ 262144) (ha : a = ((p / 8 : Nat) : Int)) (hb : b = ((mask p).toNat : Int)) :
    Calls Try.prog 104 #[.int .i64 a, .int .u8 b, .pointer (some ⟨bx, 0, none⟩)] w fun e w' => e = .returned (.bool (hasBit B p)) ∧ w = w' := by
  subst ha
  subst hb
  have h2 := hF.head
  have h3 := hF.bit hp
  have hlen := hF.len
  have hpn : p / 8 < n := by omega
  have hn : n ≤ 262144 := by omega
  have hval : hasBit B p = (bits .and .u8 (B[p / 8].toNat : Int) ((mask p).toNat : Int) != 0) := by
    rw [u8_and_nat _ _ (by have := B[p / 8].toNat_lt; omega) (by have := (mask p).toNat_lt; omega)]
    have e : B.getD (p / 8) 0 = B[p / 8] := by simp [List.getD_eq_getElem?_getD, hp]
    unfold hasBit
    rw [e, ← UInt8.toNat_and]
    generalize B[p / 8] &&& mask p = y
    rw [Bool.eq_iff_iff, bne_iff_ne, bne_iff_ne]
    constructor
    · intro h h0; exact h (UInt8.toNat.inj (by simpa using h0))
    · rintro h rfl; exact h rfl
  have HV := Lib.hid hval
  clear hval hF hlen
  generalize B[p / 8] = x at *
  generalize p / 8 = j at *
  generalize mask p = m at *
  go_enter Try.func104, Try.ntmps104
  go_wp2
  go_ret
  exact ⟨by rw [HV.out]; rfl, rfl⟩

theorem each_add (bx g h n c kc : Nat) (B key : List UInt8) (A : Option Addr) (w : World) (hF : Filt w g h n c B) (hbx : w.cell? ⟨bx, 0, none⟩ = some (.pointer (some ⟨g, 0, none⟩))) (hne : bx ≠ h)
    (hn : 8 ≤ n ∧ n ≤ 262144) (hk : Rd w A key) (hl : key.length ≤ 140737488355328) :
    Calls Try.prog 103 #[.pointer (some ⟨g, 0, none⟩), .slice A key.length kc, .func (.func 107) #[] #[.pointer (some ⟨bx, 0, none⟩)]] w
      fun e w' => e = .returned (.bool true) ∧ (Filt w' g h n c (addKey B key) ∧ Chg (One h) w w') := by
  have hlen := hF.len
  refine (each_any g h n c 107 (.pointer (some ⟨bx, 0, none⟩)) (fun k W => Filt W g h n c (addUp B key k) ∧ W.cell? ⟨bx, 0, none⟩ = some (.pointer (some ⟨g, 0, none⟩)) ∧ Chg (One h) w W) (fun _ => true) A kc key w hn (by omega)
    Try.call107 (fun k W hs => hs.1.head) hk ?_ ⟨hF, hbx, Chg.refl _ _⟩).mono ?_
  · rintro k W a b hk4 ⟨h1, h2, h3⟩ ha hb
    have hp := place_byte key k n (by omega)
    refine (add1_any bx g h n c _ _ W a b h1 h2 (by rw [length_addUp]; omega) (by rw [length_addUp]; omega) ha hb).mono ?_
    rintro e W' ⟨rfl, h4, h5⟩
    refine ⟨rfl, ?_, h5.cell h2 (fun e => hne e), h3.tr h5⟩
    rw [addUp, ← hlen]
    exact h4
  · rintro e w' ⟨rfl, k, ⟨h1, _, h3⟩, hk4⟩
    have := hk4 rfl
    subst this
    exact ⟨rfl, h1, h3⟩
theorem each_has (bx g h n c kc : Nat) (B key : List UInt8) (A : Option Addr) (w : World) (hF : Filt w g h n c B) (hbx : w.cell? ⟨bx, 0, none⟩ = some (.pointer (some ⟨g, 0, none⟩)))
    (hn : 8 ≤ n ∧ n ≤ 262144) (hk : Rd w A key) (hl : key.length ≤ 140737488355328) :
    Calls Try.prog 103 #[.pointer (some ⟨g, 0, none⟩), .slice A key.length kc, .func (.func 104) #[] #[.pointer (some ⟨bx, 0, none⟩)]] w
      fun e w' => e = .returned (.bool (hasKey B key)) ∧ w = w' := by
  have hlen := hF.len
  refine (each_any g h n c 104 (.pointer (some ⟨bx, 0, none⟩)) (fun k W => w = W) (goBit B key) A kc key w hn (by omega)
    Try.call104 (fun k W hs => hs ▸ hF.head) hk ?_ rfl).mono ?_
  · rintro k W a b hk4 rfl ha hb
    have hp := place_byte key k n (by omega)
    refine (has1_any bx g h n c _ _ w a b hF hbx (by omega) (by omega) ha hb).mono ?_
    rintro e W' ⟨rfl, rfl⟩
    refine ⟨?_, rfl⟩
    rw [hlen]
    rfl
  · rintro e w' ⟨rfl, k, h1, _⟩
    exact ⟨rfl, h1⟩

/-- Add. -/
def Added (g h n c : Nat) (B : List UInt8) (w : World) (e : Ending) (w' : World) : Prop := e = .returned (.tuple #[]) ∧ Filt w' g h n c B ∧ Chg (One h) w w'
theorem add_any (g h n c kc : Nat) (B : List UInt8) (A : Option Addr) (ks : Rows_) (w : World) (hF : Filt w g h n c B) (hn : 8 ≤ n ∧ n ≤ 262144) (hk : Stay (One h) w (RdL · A ks))
    (hl : ∀ k ∈ ks, k.2.2.length ≤ 140737488355328) (hks : ks.length ≤ 140737488355328) :
    Calls Try.prog 93 #[.pointer (some ⟨g, 0, none⟩), .slice A ks.length kc] w (Added g h n c (addAll B (txt ks)) w) := by
  have HF := Lib.hid hF
  have HK := Lib.hid hk
  have HL := Lib.hid hl
  have HN := Lib.hid hn
  have HH := Lib.hid hF.lt
  clear hF hk hl hn
  go_enter Try.func93, Try.ntmps93
  go_wp2
  go_loopw [5, 8] (fun _ i wr => ∃ k : Nat, k ≤ ks.length ∧ i = .int .i64 k ∧ Hid (Filt wr g h n c (addAll B (txt (ks.take k))) ∧ wr.cell? ⟨w.heap.size, 0, none⟩ = some (.pointer (some ⟨g, 0, none⟩)) ∧ Chg (One h) w wr)) (fun _ i _ => ks.length - (intOf i).toNat)
  case atStart => exact ⟨0, by omega, rfl, HF.out.new ((Chg.refl No w).alloc _), by simp [At.new w _ _ |>.cell], (Chg.refl _ w).alloc _⟩
  case round =>
    obtain ⟨k, hk, rfl, HR⟩ := hrel
    by_cases hlt : k < ks.length
    · obtain ⟨⟨b, o, hA, hc⟩, hrd⟩ := (HK.out wr HR.out.2.2).get hlt
      subst hA
      have hbx := HR.out.2.1
      have HD := Lib.hid hrd
      have HT : Hid (addAll B (txt (ks.take (k + 1))) = addKey (addAll B (txt (ks.take k))) ks[k].2.2) := by
        rw [List.take_succ_eq_append_getElem hlt, txt, List.map_append]
        exact addAll_append _ _ _
      have HX := Lib.hid (HL.out ks[k] (List.getElem_mem hlt))
      clear hrd
      generalize ks[k] = x at *
      go_wp2_with fail
      refine (each_add w.heap.size g h n c _ _ _ _ wr HR.out.1 hbx (by have := HH.out.2; omega) HN.out HD.out HX.out).mono ?_
      rintro e W' ⟨rfl, h1, h2⟩
      have H1 := Lib.hid h1
      have H2 := Lib.hid h2
      clear h1 h2
      go_wp2
      go_roundw
      case rel => exact ⟨k + 1, by omega, by go_num, by rw [HT.out]; exact H1.out, H2.out.cell hbx (by have := HH.out.2; unfold One; simp; omega), HR.out.2.2.tr H2.out⟩
      case measure => simp [intOf]; omega
    · have ht : ks.take k = ks := List.take_of_length_le (by omega)
      rw [ht] at HR
      clear ht
      go_wp2
      go_end0
      exact ⟨rfl, HR.out.1, HR.out.2.2⟩

/-- Has: asked of what is there, whether it changes nothing. -/
theorem has_any (g h n c kc : Nat) (B key : List UInt8) (A : Option Addr) (w : World) (hF : Filt w g h n c B) (hn : 8 ≤ n ∧ n ≤ 262144) (hk : Rd w A key) (hl : key.length ≤ 140737488355328) :
    Calls Try.prog 83 #[.pointer (some ⟨g, 0, none⟩), .slice A key.length kc] w (Asked (hasKey B key) w) := by
  have HF := Lib.hid hF
  have HK := Lib.hid hk
  have HN := Lib.hid hn
  clear hF hk hn
  go_enter Try.func83, Try.ntmps83
  go_wp2_with fail
  refine (each_has w.heap.size g h n c _ B key A _ (HF.out.new ((Chg.refl No w).alloc _)) (by simp [At.new w _ _ |>.cell]) HN.out (HK.out.alloc _) hl).mono ?_
  rintro e W' ⟨rfl, rfl⟩
  go_wp2
  go_ret
  exact ⟨rfl, (Chg.refl No w).alloc _⟩

/-- Bytes: the bits, in a row of their own. -/
def Told (B : List UInt8) (w : World) (e : Ending) (w' : World) : Prop :=
  ∃ x cap cur, e = .returned (.slice (some ⟨x, 0, none⟩) B.length cap) ∧ w.heap.size ≤ x ∧ At w' x 5 cur ∧ cur.size = cap ∧ B.length ≤ cap ∧ cap ≤ maxLen ∧ (∀ j (hj : j < B.length), cur[j]? = some (bv B[j])) ∧ Chg No w w'
theorem told_of_cloned {A : Option Addr} {l : List UInt8} {w w' : World} {e : Ending} (h : Cloned l A w e w') (hA : A ≠ none) : Told l w e w' := by
  obtain ⟨v, rfl, h1, h2, h3⟩ := h
  obtain ⟨g, cap, cur, rfl, k1, k2, k3, k4, k5, k6⟩ := own_form h1 (fun e => hA (h2.1 e))
  exact ⟨g, cap, cur, rfl, k1, k2, k5, k3, k4, fun j hj => by rw [k6 j (by simpa using hj)]; simp, h3⟩
theorem told_rd {B : List UInt8} {w w' : World} {e : Ending} (h : Told B w e w') : ∃ A c, e = .returned (.slice A B.length c) ∧ Rd w' A B ∧ Chg No w w' := by
  obtain ⟨x, cap, cur, rfl, h1, h2, h3, h4, h5, h6, h7⟩ := h
  exact ⟨_, _, rfl, RdV.of_at h2 fun j hj => by rw [h6 j (by simpa using hj)]; simp, h7⟩
theorem fbytes_any (g h n c : Nat) (B : List UInt8) (w : World) (hF : Filt w g h n c B) (hn : 8 ≤ n ∧ n ≤ 262144) :
    Calls Try.prog 57 #[.pointer (some ⟨g, 0, none⟩)] w (Told B w) := by
  have hc := hF.head
  have hlen := hF.len
  subst hlen
  obtain ⟨hn1, hn2⟩ := hn
  have HR := Lib.hid hF.rd
  clear hF
  go_enter Try.func57, Try.ntmps57
  go_wp2_with fail
  refine (clone_any _ c B w HR.out (by omega)).mono ?_
  intro e w' hh
  obtain ⟨x, cap, cur, rfl, hx⟩ := told_of_cloned hh (by simp)
  have HX := Lib.hid hx
  clear hx hh
  go_wp2
  go_ret
  exact ⟨x, cap, cur, rfl, HX.out⟩

/-- Add of keys that lie in a row of the caller's own making. -/
theorem add_at (g h n c r m kc : Nat) (B : List UInt8) (ks : Rows_) (W : World) (hF : Filt W g h n c B) (hn : 8 ≤ n ∧ n ≤ 262144) (hW : At W r 32 (ks.map slOf).toArray) (hm : ks.length = m)
    (hk : ∀ k ∈ ks, Stay (One h) W (Rd · k.1 k.2.2)) (hl : ∀ k ∈ ks, k.2.2.length ≤ 140737488355328) (hks : m ≤ 140737488355328) :
    Calls Try.prog 93 #[.pointer (some ⟨g, 0, none⟩), .slice (some ⟨r, 0, none⟩) m kc] W (Added g h n c (addAll B (txt ks)) W) := by
  subst hm
  have hrh : r ≠ h := by
    obtain ⟨_, cur, h2, _⟩ := hF
    exact hW.ne h2 (by decide)
  refine add_any g h n c kc B _ ks W hF hn (fun W' k' => ⟨RdV.of_at (hW.chg k' hrh) fun j hj => ?_, fun k hk' => hk k hk' W' k'⟩) hl hks
  simp at hj
  simp [hj]
theorem has_yes (g h n c kc : Nat) (B key : List UInt8) (A : Option Addr) (w : World) (hF : Filt w g h n c B) (hn : 8 ≤ n ∧ n ≤ 262144) (hk : Rd w A key) (hl : key.length ≤ 140737488355328) (hy : hasKey B key = true) :
    Calls Try.prog 83 #[.pointer (some ⟨g, 0, none⟩), .slice A key.length kc] w (Asked true w) := by
  have := has_any g h n c kc B key A w hF hn hk hl
  rwa [hy] at this
end Go.Proofs.Ytaoenbjfkahdjaa
namespace Go.Proofs.Ytaoenbjfkahdjaa
open Go.RowKit
set_option linter.unusedVariables false
set_option maxRecDepth 100000

/-- How many bytes two keys begin with alike. -/
def commonN : List UInt8 → List UInt8 → Nat
  | a :: l, b :: m => if a = b then commonN l m + 1 else 0
  | _, _ => 0
theorem commonN_le : ∀ a b : List UInt8, commonN a b ≤ a.length ∧ commonN a b ≤ b.length
  | [], b => by simp [commonN]
  | a :: l, [] => by simp [commonN]
  | a :: l, b :: m => by
    have := commonN_le l m
    unfold commonN
    split <;> simp <;> omega
theorem commonN_take : ∀ a b : List UInt8, a.take (commonN a b) = b.take (commonN a b)
  | [], b => by simp [commonN]
  | a :: l, [] => by simp [commonN]
  | a :: l, b :: m => by
    have := commonN_take l m
    unfold commonN
    split
    · rename_i h
      rw [List.take_succ_cons, List.take_succ_cons, this, h]
    · simp
theorem commonN_eq : ∀ {a b : List UInt8} {n : Nat}, n ≤ a.length → n ≤ b.length → (∀ j (h : j < a.length) (h' : j < b.length), j < n → a[j] = b[j]) → (∀ (h : n < a.length) (h' : n < b.length), a[n] ≠ b[n]) → commonN a b = n
  | [], b, n, h1, _, _, _ => by simp at h1; simp [commonN, h1]
  | a :: l, [], n, _, h2, _, _ => by simp at h2; simp [commonN, h2]
  | a :: l, b :: m, 0, _, _, _, h4 => by
    have := h4 (by simp) (by simp)
    unfold commonN
    rw [if_neg (by simpa using this)]
  | a :: l, b :: m, n + 1, h1, h2, h3, h4 => by
    have h0 := h3 0 (by simp) (by simp) (by omega)
    unfold commonN
    rw [if_pos (by simpa using h0), commonN_eq (n := n) (by simpa using h1) (by simpa using h2) (fun j h h' hj => by
      have := h3 (j + 1) (by simp; omega) (by simp; omega) (by omega)
      simpa using this) (fun h h' => by
      have := h4 (by simp; omega) (by simp; omega)
      simpa using this)]
/-- May an entry be laid? -/
def mayE (e : Ent) : Bool := decide (e.key.length ≤ 128) && (decide (e.value.length ≤ 16384) && ((!e.dead || decide (e.value.length = 0)) && decide (0 ≤ e.seq)))
/-- An entry's bytes behind a key. -/
def entB (ahead : List UInt8) (e : Ent) : List UInt8 :=
  [UInt8.ofNat (commonN ahead e.key), UInt8.ofNat (e.key.length - commonN ahead e.key)] ++ (putB e.seq.toNat 8 ++ ([if e.dead then 1 else 0] ++ (putB e.value.length 2 ++ (e.key.drop (commonN ahead e.key) ++ e.value))))
/-- The key ahead of the i-th entry, as its bytes take it. -/
def aheadK (L : List Ent) (i : Nat) : List UInt8 := if i % 8 = 0 then [] else match L[i - 1]? with | some e => e.key | none => []
def entAt (L : List Ent) (i : Nat) : List UInt8 := match L[i]? with | some e => entB (aheadK L i) e | none => []
def markB : List UInt8 := [84, 68, 84, 49]
/-- The bytes ahead of the k-th entry. -/
def bodyB (L : List Ent) (k : Nat) : List UInt8 := markB ++ putB L.length 4 ++ ((List.range k).map (entAt L)).flatten
def idxAt (L : List Ent) (i : Nat) : List UInt8 := if i % 8 = 0 then putB (bodyB L i).length 4 ++ ([UInt8.ofNat ((L[i]?.map (·.key.length)).getD 0)] ++ (L[i]?.map (·.key)).getD []) else []
/-- The index, as far as k entries. -/
def idxB (L : List Ent) (k : Nat) : List UInt8 := putB ((L.length + 7) / 8) 4 ++ ((List.range k).map (idxAt L)).flatten
/-- The keys, each once. -/
def unlike (L : List Ent) : Nat → List (List UInt8)
  | 0 => []
  | k + 1 => match L[k]? with
    | none => unlike L k
    | some e => if k = 0 then unlike L k ++ [e.key] else match L[k - 1]? with
      | some d => if d.key = e.key then unlike L k else unlike L k ++ [e.key]
      | none => unlike L k ++ [e.key]
def bitsB (L : List Ent) : List UInt8 := addAll (List.replicate (nbytes (unlike L L.length).length 10) 0) (unlike L L.length)
/-- All but the sum. -/
def allB (L : List Ent) : List UInt8 :=
  let b := bodyB L L.length
  let c := b ++ idxB L L.length
  c ++ putB (bitsB L).length 4 ++ bitsB L ++ putB b.length 4 ++ putB c.length 4
def buildB (L : List Ent) : List UInt8 := allB L ++ putB (sumB (allB L)) 4
/-- What Build says of entries. -/
def buildE (L : List Ent) : Nat := if sortedB L = false then 70 else if 65536 < L.length ∨ L.any (fun e => !mayE e) then 71 else 0
theorem bodyB_succ (L : List Ent) (k : Nat) : bodyB L (k + 1) = bodyB L k ++ entAt L k := by
  unfold bodyB
  rw [List.range_succ, List.map_append, List.flatten_append, List.append_assoc]
  simp
theorem idxB_succ (L : List Ent) (k : Nat) : idxB L (k + 1) = idxB L k ++ idxAt L k := by
  unfold idxB
  rw [List.range_succ, List.map_append, List.flatten_append, List.append_assoc]
  simp
end Go.Proofs.Ytaoenbjfkahdjaa
namespace Go.Proofs.Ytaoenbjfkahdjaa
open Go.RowKit
set_option linter.unusedVariables false
set_option maxRecDepth 100000

theorem info_sl : (Try.prog.info? 32).map (fun i => (i.zero, i.size, i.bytes)) = some (some (.slice none 0 0), 1, 24) := by kernel_rfl

theorem own_type {w : World} {base e n : Nat} {v : Value} {xs : List Value} (h : w.ownsRow base e 1 v n xs) {g : Nat} (hg : v.ownBlock = some g) : ∃ cur, At w g e cur := by
  rcases h.2 with ⟨rfl, _⟩ | ⟨g', cap, cur, rfl, _, hh, _⟩
  · simp [Value.ownBlock] at hg
  · simp [Value.ownBlock] at hg
    subst hg
    exact ⟨cur, hh⟩
theorem own_ne {w : World} {base e n base' e' n' : Nat} {v v' : Value} {xs xs' : List Value} (h : w.ownsRow base e 1 v n xs) (h' : w.ownsRow base' e' 1 v' n' xs') (hne : e ≠ e') : ∀ g, v.ownBlock = some g → v'.ownBlock ≠ some g := by
  intro g hg hg'
  obtain ⟨c, hc⟩ := own_type h hg
  obtain ⟨c', hc'⟩ := own_type h' hg'
  exact hc.ne hc' hne rfl

theorem own_ne_at {w : World} {base e n g t : Nat} {v : Value} {xs : List Value} {cs : Array Value} (h : w.ownsRow base e 1 v n xs) (hg : At w g t cs) (hne : e ≠ t) : some g ≠ v.ownBlock := by
  intro hv
  obtain ⟨cur, hc⟩ := own_type h hv.symm
  exact hc.ne hg hne rfl
theorem own_base {w : World} {base base' e size n : Nat} {v : Value} {xs : List Value} (h : w.ownsRow base e size v n xs) (hb : base' ≤ base) : w.ownsRow base' e size v n xs := by
  refine ⟨h.1, ?_⟩
  rcases h.2 with h2 | ⟨g, cap, cur, e, hg, r⟩
  · exact .inl h2
  · exact .inr ⟨g, cap, cur, e, Nat.le_trans hb hg, r⟩
/-- Each of the rows is the call's own, and no two share a block. -/
structure OwnL (base : Nat) (w : World) (ks : Rows_) : Prop where
  own : ∀ k ∈ ks, w.ownsRow base 5 1 (slOf k) k.2.2.length (k.2.2.map bv)
  apart : ks.Pairwise fun a b => ∀ g, (slOf a).ownBlock = some g → (slOf b).ownBlock ≠ some g
/-- The list itself: its row, and the rows. -/
structure OwnLL (base : Nat) (w : World) (v : Value) (ks : Rows_) : Prop where
  row : w.ownsRow base 32 1 v ks.length (ks.map slOf)
  each : OwnL base w ks
section
variable {base : Nat} {w w' : World} {v : Value} {ks : Rows_}
theorem OwnL.nil (base : Nat) (w : World) : OwnL base w [] := ⟨by simp, List.Pairwise.nil⟩
theorem OwnLL.nil (base : Nat) (w : World) : OwnLL base w (.slice none 0 0) [] := ⟨World.ownsRow_nil _ _ _ _, OwnL.nil _ _⟩
theorem OwnL.chg {S : Nat → Prop} (h : OwnL base w ks) (k : Chg S w w') (hS : ∀ x ∈ ks, ∀ g, (slOf x).ownBlock = some g → ¬ S g) : OwnL base w' ks :=
  ⟨fun x hx => own_chg (h.own x hx) k (hS x hx), h.apart⟩
theorem OwnL.new (h : OwnL base w ks) (k : Chg No w w') : OwnL base w' ks := h.chg k fun _ _ _ _ => id
theorem OwnLL.new (h : OwnLL base w v ks) (k : Chg No w w') : OwnLL base w' v ks := ⟨own_chg h.row k fun _ _ => id, h.each.new k⟩
theorem OwnLL.old {B : Nat} (h : OwnLL base w v ks) (k : Chg (From B) w w') (hb : w.heap.size ≤ B) : OwnLL base w' v ks :=
  ⟨own_chg h.row k fun g hg => by have := h.row.lt g hg; unfold From; omega, h.each.chg k fun x hx g hg => by have := (h.each.own x hx).lt g hg; unfold From; omega⟩
theorem OwnL.mono {base' : Nat} (h : OwnL base w ks) (hb : base' ≤ base) : OwnL base' w ks := by
  refine ⟨fun x hx => ?_, h.apart⟩
  obtain ⟨h1, h2⟩ := h.own x hx
  refine ⟨h1, ?_⟩
  rcases h2 with h2 | ⟨g, cap, cur, e, hg, r⟩
  · exact .inl h2
  · exact .inr ⟨g, cap, cur, e, Nat.le_trans hb hg, r⟩
/-- What lies there reads as the texts. -/
theorem OwnL.rd (h : OwnL base w ks) {x : Option Addr × Nat × List UInt8} (hx : x ∈ ks) : Rd w x.1 x.2.2 := RdV.of_own (h.own x hx)
theorem OwnLL.rdl (h : OwnLL base w v ks) : ∃ A c, v = .slice A ks.length c ∧ RdL w A ks ∧ ks.length ≤ c ∧ c ≤ maxLen ∧ ∀ b o, A = some ⟨b, o, none⟩ → base ≤ b := by
  obtain ⟨A, c, rfl, h1, h2, h3, h4⟩ := own_rd h.row
  exact ⟨A, c, rfl, ⟨h1, fun x hx => h.each.rd hx⟩, h2, h3, h4⟩
theorem OwnL.caps (h : OwnL base w ks) : ∀ k ∈ ks, k.2.2.length ≤ k.2.1 ∧ k.2.1 ≤ maxLen := fun k hk => by
  obtain ⟨A, c, e, _, h1, h2, _⟩ := own_rd (h.own k hk)
  unfold slOf at e
  injection e with _ _ e
  rw [e]
  exact ⟨h1, h2⟩
/-- One row more, of new memory. -/
theorem OwnL.snoc {base2 : Nat} (h : OwnL base w ks) {x : Option Addr × Nat × List UInt8} (hx : w.ownsRow base2 5 1 (slOf x) x.2.2.length (x.2.2.map bv)) (hb : base ≤ base2) (hlt : ∀ k ∈ ks, ∀ g, (slOf k).ownBlock = some g → g < base2) : OwnL base w (ks ++ [x]) := by
  refine ⟨fun k hk => ?_, ?_⟩
  · rcases List.mem_append.1 hk with h1 | h1
    · exact h.own k h1
    · simp at h1
      subst h1
      have hm : OwnL base2 w [k] := ⟨fun y hy => by simp at hy; subst hy; exact hx, by simp⟩
      exact (hm.mono hb).own k (by simp)
  · rw [List.pairwise_append]
    refine ⟨h.apart, by simp, fun a ha b hb' g hg hg' => ?_⟩
    simp at hb'
    subst hb'
    have h1 := hlt a ha g hg
    have h2 := (hx.lt g hg').1
    omega
theorem slOf_one (ks : Rows_) : ∀ u ∈ ks.map slOf, u.oneCell' = true := by
  intro u hu
  obtain ⟨k, _, rfl⟩ := List.mem_map.1 hu
  rfl
theorem own_sl {n : Nat} {l : List UInt8} (h : w.ownsRow base 5 1 v n (l.map bv)) : ∃ A c, v = .slice A l.length c ∧ n = l.length := by
  have hn : n = l.length := by simpa using h.1.symm
  subst hn
  obtain ⟨A, c, rfl, _⟩ := own_rd h
  exact ⟨A, c, rfl, rfl⟩
/-- What an append of one row to a list of rows leaves. -/
theorem OwnLL.appd {base2 : Nat} {x : Option Addr × Nat × List UInt8} {w1 : World} {v' : Value} (h : OwnLL base w v ks) (hx : w.ownsRow base2 5 1 (slOf x) x.2.2.length (x.2.2.map bv)) (hb : base ≤ base2)
    (hlt : ∀ k ∈ ks, ∀ g, (slOf k).ownBlock = some g → g < base2) (hap : Appd base 32 1 w v ks.length 1 (ks.map slOf ++ [slOf x]) v' w1) : OwnLL base w1 v' (ks ++ [x]) := by
  refine ⟨by simpa using hap.own, ?_⟩
  refine (h.each.snoc hx hb hlt).chg hap.chg fun y hy g hg => ?_
  intro e
  have hy' := (h.each.snoc hx hb hlt).own y hy
  exact own_ne hy' h.row (by decide) g hg e.symm
end

/-- A quiet call behind draws. -/
theorem quiet_add_same' {P : Program} {f : FuncId} {args : Array Value} {w : World} {a n : Nat} {v : Value}
    (h : Calls P f args (w.drewN (a + n)) fun e w' => e = .returned v ∧ w' = w.drewN (a + n)) : Calls P f args (w.drewN (a + n)) fun e w'' => e = .returned v ∧ ∃ m, w'' = w.drewN (a + m) :=
  h.mono fun _ _ ⟨he, hm⟩ => ⟨he, n, hm⟩
end Go.Proofs.Ytaoenbjfkahdjaa
namespace Go.Proofs.Ytaoenbjfkahdjaa
open Go.RowKit
set_option linter.unusedVariables false

/-- octet.Join: a row of its own. -/
def Joined (l : List UInt8) (w : World) (e : Ending) (w' : World) : Prop := ∃ v, e = .returned v ∧ w'.ownsRow w.heap.size 5 1 v l.length (l.map bv) ∧ Chg No w w'
theorem flat_take (ks : Rows_) (k : Nat) (h : k < ks.length) : (txt (ks.take (k + 1))).flatten = (txt (ks.take k)).flatten ++ ks[k].2.2 := by
  rw [List.take_succ_eq_append_getElem h, txt, List.map_append, List.flatten_append]
  simp [txt]
theorem flat_le (ks : Rows_) (k : Nat) : (txt (ks.take k)).flatten.length ≤ (txt ks).flatten.length := by
  conv => rhs; rw [← List.take_append_drop k ks]
  rw [txt, txt, List.map_append, List.flatten_append, List.length_append]
  omega
set_option maxHeartbeats 1000000 in
theorem join_any (A : Option Addr) (c : Nat) (ks : Rows_) (w : World) (h : RdL w A ks) (htot : (txt ks).flatten.length ≤ 140737488355328) (hks : ks.length ≤ 140737488355328) :
    Calls Try.prog 53 #[.slice A ks.length c] w (Joined (txt ks).flatten w) := by
  obtain ⟨i0, hi, hz0, hz1, hz2⟩ := info_parts info_u8
  have HR := Lib.hid h
  have HT := Lib.hid htot
  clear h htot
  go_enter Try.func53, Try.ntmps53
  go_wp2
  go_loopw [3, 5, 8] (fun v _ i wr => ∃ k : Nat, k ≤ ks.length ∧ i = .int .i64 k ∧ Hid (wr.ownsRow w.heap.size 5 1 v (txt (ks.take k)).flatten.length ((txt (ks.take k)).flatten.map bv) ∧ Chg No w wr)) (fun _ _ i _ => ks.length - (intOf i).toNat)
  case atStart => exact ⟨0, by omega, rfl, World.ownsRow_nil _ _ _ _, Chg.refl _ _⟩
  case round =>
    obtain ⟨k, hk, rfl, HD⟩ := hrel
    by_cases hlt : k < ks.length
    · obtain ⟨⟨b, o, rfl, hc⟩, hx⟩ := (HR.out.new HD.out.2).get hlt
      have HX := Lib.hid hx
      have HF := Lib.hid (flat_take ks k hlt)
      have hle1 := flat_le ks (k + 1)
      rw [HF.out, List.length_append] at hle1
      have L1 : Hid ((txt (ks.take k)).flatten.length + ks[k].2.2.length ≤ 140737488355328 ∧ w.heap.size ≤ wr.heap.size) := ⟨by have := HT.out; omega, HD.out.2.size⟩
      clear hx hle1
      generalize ks[k] = x at *
      generalize (txt (ks.take k)).flatten = pre at *
      go_wp2_with (at_builtin; refine wpList_app rfl (.tmp 12) (.tmp 13) 32 rfl w.heap.size 5 i0 _ 1 1 Try.underlying32 hi hz0 hz1 hz2 rfl (by decide) u3 pre.length (pre.map bv) rfl HD.out.1 x.1 x.2.2.length x.2.1 (x.2.2.map bv) rfl HX.out (by simp) (bv_one _) (by have := L1.out.1; unfold maxLen; omega) (by have := L1.out.1; omega) L1.out.2 ?_; intro v3 w3 hap; have HA := Lib.hid hap; clear hap)
      go_roundw
      case rel =>
        refine ⟨k + 1, by omega, by go_num, ?_, HA.out.old HD.out.2 HD.out.1 (Nat.le_refl _)⟩
        rw [HF.out, List.map_append, List.length_append]
        exact HA.out.own
      case measure => simp [intOf]; omega
    · have ht : ks.take k = ks := List.take_of_length_le (by omega)
      rw [ht] at HD
      clear ht
      go_wp2_with fail
      go_ret
      exact ⟨_, rfl, HD.out.1, HD.out.2⟩

end Go.Proofs.Ytaoenbjfkahdjaa
namespace Go.Proofs.Ytaoenbjfkahdjaa
open Go.RowKit
set_option linter.unusedVariables false
set_option maxRecDepth 100000

theorem four_any (n : Nat) (hn : n < 9223372036854775808) (w0 w : World) (F : SP) (h : Sat w0 F w) : Calls Try.prog 54 #[.int .i64 (n : Int)] w (NewB w0 F (putB n 4)) := by
  have H := Lib.hid h
  clear h
  have hw : IntKind.u64.wrap (n : Int) = n := by rw [IntKind.wrap_u64]; omega
  go_enter Try.func54, Try.ntmps54
  go_wp2_with (go_at_call 58; refine (oput_any n 4 (by omega) (by omega) (by omega) w0 _ F H.out).mono ?_; rintro x w1 ⟨A, c, rfl, h1, h2, hs⟩; have H1 := Lib.hid h1; have H2 := Lib.hid h2; have HS := Lib.hid hs; clear h1 h2 hs)
  go_ret
  exact ⟨A, c, rfl, H1.out, H2.out, HS.out⟩
theorem rnum_any (n : Nat) (k : Nat) (hn : n < 9223372036854775808) (h0 : 1 ≤ k) (h8 : k ≤ 8) (w0 w : World) (F : SP) (h : Sat w0 F w) : Calls Try.prog 74 #[.int .i64 (n : Int), .int .i64 (k : Int)] w (NewB w0 F (putB n k)) := by
  have H := Lib.hid h
  clear h
  have hw : IntKind.u64.wrap (n : Int) = n := by rw [IntKind.wrap_u64]; omega
  go_enter Try.func74, Try.ntmps74
  go_wp2_with (go_at_call 99; refine (rput1_any n k (by omega) h0 h8 w0 _ F H.out).mono ?_; rintro x w1 ⟨A, c, rfl, h1, h2, hs⟩; have H1 := Lib.hid h1; have H2 := Lib.hid h2; have HS := Lib.hid hs; clear h1 h2 hs)
  go_ret
  exact ⟨A, c, rfl, H1.out, H2.out, HS.out⟩
theorem common_any (a b : Slc) (w : World) (ha : Rd w a.1 a.2.2) (hb : Rd w b.1 b.2.2) (hl : a.2.2.length ≤ 1000000) :
    Calls Try.prog 91 #[.slice a.1 a.2.2.length a.2.1, .slice b.1 b.2.2.length b.2.1] w fun x w' => x = .returned (.int .i64 (commonN a.2.2 b.2.2 : Nat)) ∧ Chg No w w' := by
  obtain ⟨A, c, l⟩ := a
  obtain ⟨B, d, m⟩ := b
  have HA : Hid (Rd w A l) := ha
  have HB : Hid (Rd w B m) := hb
  have hl : l.length ≤ 1000000 := hl
  clear ha hb
  show Calls Try.prog 91 #[.slice A l.length c, .slice B m.length d] w fun x w' => x = .returned (.int .i64 (commonN l m : Nat)) ∧ Chg No w w'
  go_enter Try.func91, Try.ntmps91
  go_wp2_with fail
  go_loopw [5] (fun iv wr => ∃ n : Nat, n ≤ l.length ∧ n ≤ m.length ∧ iv = .int .i64 n ∧ Hid ((∀ j (h : j < l.length) (h' : j < m.length), j < n → l[j] = m[j]) ∧ Chg No w wr)) (fun iv _ => l.length - (intOf iv).toNat)
  case atStart => exact ⟨0, by omega, by omega, rfl, fun j _ _ h => by omega, Chg.refl _ _⟩
  case round =>
    obtain ⟨n, hn1, hn2, rfl, HD⟩ := hrel
    by_cases h1 : n < l.length
    · by_cases h2 : n < m.length
      · obtain ⟨b1, o1, rfl, c1⟩ := (HA.out.new HD.out.2).get h1
        obtain ⟨b2, o2, rfl, c2⟩ := (HB.out.new HD.out.2).get h2
        by_cases h3 : l[n] = m[n]
        · have HN : Hid (∀ j (h : j < l.length) (h' : j < m.length), j < n + 1 → l[j] = m[j]) := fun j h h' hj => by
            by_cases e : j = n
            · subst e; exact h3
            · exact HD.out.1 j h h' (by omega)
          rw [h3] at c1
          clear h3
          go_wp2_with fail
          go_quiet (fail)
          go_wp2_with fail
          go_roundw
          · exact ⟨n + 1, by omega, by omega, by push_cast; rfl, HN.out, HD.out.2.drewN _⟩
          · simp [intOf]; omega
        · have h4 : ((l[n].toNat : Int) == (m[n].toNat : Int)) = false := by
            rw [beq_eq_false_iff_ne]
            intro e
            exact h3 (UInt8.toNat.inj (by omega))
          have HE : Hid (commonN l m = n) := commonN_eq hn1 hn2 HD.out.1 (fun _ _ => h3)
          clear h3
          go_wp2_with fail
          go_quiet (fail)
          go_wp2_with fail
          go_ret
          exact ⟨by rw [HE.out]; rfl, HD.out.2.drewN _⟩
      · have HE : Hid (commonN l m = n) := commonN_eq hn1 hn2 HD.out.1 (fun _ h => absurd h h2)
        go_wp2_with fail
        go_quiet (fail)
        go_wp2_with fail
        go_ret
        exact ⟨by rw [HE.out]; rfl, HD.out.2.drewN _⟩
    · have HE : Hid (commonN l m = n) := commonN_eq hn1 hn2 HD.out.1 (fun h => absurd h h1)
      go_wp2_with fail
      go_quiet (fail)
      go_wp2_with fail
      go_ret
      exact ⟨by rw [HE.out]; rfl, HD.out.2.drewN _⟩
theorem lmay_any (e : En) (w : World) (hk : e.key.2.2.length ≤ 140737488355328) (hv : e.value.2.2.length ≤ 140737488355328) :
    Calls Try.prog 52 #[enA e] w fun x w' => x = .returned (.bool (mayE e.ent)) ∧ Chg No w w' := by
  obtain ⟨⟨kA, kc, k⟩, ⟨vA, vc, v⟩, seq, dead⟩ := e
  have hk : k.length ≤ 140737488355328 := hk
  have hv : v.length ≤ 140737488355328 := hv
  have hs := (Sat.start w).allocPt 34 #[.slice kA k.length kc, .slice vA v.length vc, .int .i64 seq, .bool dead]
  have c0 := hs.cell 0; have c1 := hs.cell 1; have c2 := hs.cell 2; have c3 := hs.cell 3
  have HS := Lib.hid hs
  have HM : Hid (mayE ⟨k, v, seq, dead⟩ = (decide (k.length ≤ 128) && (decide (v.length ≤ 16384) && ((!dead || decide (v.length = 0)) && decide (0 ≤ seq))))) := rfl
  unfold enA
  show Calls Try.prog _ _ w fun x w' => x = .returned (.bool (mayE ⟨k, v, seq, dead⟩)) ∧ Chg No w w'
  clear hs
  by_cases h1 : k.length ≤ 128
  · have q1 := decide_eq_true h1
    have i1 : (k.length : Int) ≤ 128 := by omega
    by_cases h2 : v.length ≤ 16384
    · have q2 := decide_eq_true h2
      have i2 : (v.length : Int) ≤ 16384 := by omega
      by_cases h3 : 0 ≤ seq
      · have q3 := decide_eq_true h3
        by_cases h4 : v.length = 0
        · have q4 := decide_eq_true h4
          have HE : Hid (mayE ⟨k, v, seq, dead⟩ = true) := by unfold Hid; rw [HM.out, q1, q2, q3, q4]; cases dead <;> rfl
          have i4 : ((v.length : Int) == 0) = true := by rw [h4]; rfl
          clear q1 q2 q3 q4 h4
          cases dead <;>
          · go_enter Try.func52, Try.ntmps52
            go_wp2_with fail
            go_ret
            exact ⟨by rw [HE.out]; rfl, HS.out.chg⟩
        · have q4 := decide_eq_false h4
          have i4 : ((v.length : Int) == 0) = false := by rw [beq_eq_false_iff_ne]; omega
          cases dead
          · have HE : Hid (mayE ⟨k, v, seq, false⟩ = true) := by unfold Hid; rw [HM.out, q1, q2, q3, q4]; rfl
            clear q1 q2 q3 q4 h4
            go_enter Try.func52, Try.ntmps52
            go_wp2_with fail
            go_ret
            exact ⟨by rw [HE.out]; rfl, HS.out.chg⟩
          · have HE : Hid (mayE ⟨k, v, seq, true⟩ = false) := by unfold Hid; rw [HM.out, q1, q2, q3, q4]; rfl
            clear q1 q2 q3 q4 h4
            go_enter Try.func52, Try.ntmps52
            go_wp2_with fail
            go_ret
            exact ⟨by rw [HE.out]; rfl, HS.out.chg⟩
      · have q3 := decide_eq_false h3
        have HE : Hid (mayE ⟨k, v, seq, dead⟩ = false) := by unfold Hid; rw [HM.out, q1, q2, q3]; simp
        by_cases h4 : v.length = 0
        · have i4 : ((v.length : Int) == 0) = true := by rw [h4]; rfl
          clear q1 q2 q3 h4
          cases dead <;>
          · go_enter Try.func52, Try.ntmps52
            go_wp2_with fail
            go_ret
            exact ⟨by rw [HE.out]; rfl, HS.out.chg⟩
        · have i4 : ((v.length : Int) == 0) = false := by rw [beq_eq_false_iff_ne]; omega
          clear q1 q2 q3 h4
          cases dead <;>
          · go_enter Try.func52, Try.ntmps52
            go_wp2_with fail
            go_ret
            exact ⟨by rw [HE.out]; rfl, HS.out.chg⟩
    · have q2 := decide_eq_false h2
      have i2 : ¬ (v.length : Int) ≤ 16384 := by omega
      have HE : Hid (mayE ⟨k, v, seq, dead⟩ = false) := by unfold Hid; rw [HM.out, q1, q2]; rfl
      clear q1 q2
      go_enter Try.func52, Try.ntmps52
      go_wp2_with fail
      go_ret
      exact ⟨by rw [HE.out]; rfl, HS.out.chg⟩
  · have q1 := decide_eq_false h1
    have i1 : ¬ (k.length : Int) ≤ 128 := by omega
    have HE : Hid (mayE ⟨k, v, seq, dead⟩ = false) := by unfold Hid; rw [HM.out, q1]; rfl
    clear q1
    go_enter Try.func52, Try.ntmps52
    go_wp2_with fail
    go_ret
    exact ⟨by rw [HE.out]; rfl, HS.out.chg⟩
end Go.Proofs.Ytaoenbjfkahdjaa
