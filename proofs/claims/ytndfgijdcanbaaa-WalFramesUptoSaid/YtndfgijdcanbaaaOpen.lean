/- How what comes in reads: rows of bytes, lists of rows of bytes, rows of integers, in the words of Lib; and how large each may be. -/
import Derived.Test.YtndfgijdcanbaaaLib
import Derived.ProofKit
import Derived.SizedLaws
import Derived.OpenShut
import Derived.Deep.Slices
namespace Go.Proofs.Ytndfgijdcanbaaa
open Go.ChangeShapes Go.WideShapes Go.ChangeAt Go.RowKit Go.Deep
set_option linter.unusedVariables false

/-- No string, slice or map of what d holds is larger than the form's reach. -/
def Sized {H : Type} (P : Program) (t : TypeId) (d : DataW H) : Prop := ∀ n ∈ d.weights P t, n ≤ reachBytes
theorem reach_val : reachBytes = 140737488351232 := by decide
section
variable {H : Type} {P : Program}
theorem sized_of {ts : List TypeId} {ds : List (DataW H)} (h : (DataW.weightsEach P ts ds).all (· ≤ reachBytes) = true) {j : Nat} {t : TypeId} {d : DataW H} (ht : ts[j]? = some t) (hd : ds[j]? = some d) : Sized P t d := fun n hn => by
  simpa using List.all_eq_true.1 h n (DataW.weights_mem_each ht hd n hn)
theorem weightsAll_mem {e : TypeId} {d : DataW H} {n : Nat} (hn : n ∈ d.weights P e) : ∀ {l : List (DataW H)}, d ∈ l → n ∈ DataW.weightsAll P e l
  | [], h => by cases h
  | x :: l, h => by
    simp only [DataW.weightsAll, List.mem_append]
    rcases List.mem_cons.1 h with rfl | h
    · exact .inl hn
    · exact .inr (weightsAll_mem hn h)
theorem Sized.len {t e : TypeId} {elems spare : List (DataW H)} (h : Sized P t (.slice elems spare)) (hu : P.underlying t = some (.slice e)) : (elems.length + spare.length) * P.bytesOf e ≤ reachBytes :=
  h _ (by simp [DataW.weights, hu])
theorem Sized.elem {t e : TypeId} {elems spare : List (DataW H)} (h : Sized P t (.slice elems spare)) (hu : P.underlying t = some (.slice e)) {d : DataW H} (hd : d ∈ elems) : Sized P e d := fun n hn =>
  h n (by simp only [DataW.weights, hu]; exact List.mem_cons_of_mem _ (List.mem_append_left _ (weightsAll_mem hn hd)))

variable {enc : TypeId × Value → H} {w : World} {base : Nat} {spare : Nat → Bool} {held : Bool}
theorem rdv_of_add {a : Addr} {xs : List Value} (h : ∀ j (hj : j < xs.length), w.cell? (a.add j) = some xs[j]) : RdV w (some a) xs := fun hx => by
  obtain ⟨b, o, s⟩ := a
  have h0 := h 0 (List.length_pos_iff.2 hx)
  rw [Addr.add_zero'] at h0
  have hs := World.cell?_spot h0
  simp at hs
  subst hs
  exact ⟨b, o, rfl, fun j hj => by rw [← h j hj, Addr.add_lit]⟩

/-- A row of bytes. -/
theorem open_bytes {t e : TypeId} {fuel : Nat} {cs : List Value} {x : DataW H × List MemPlace} (ht : P.underlying t = some (.slice e)) (he : P.underlying e = some (.int .u8)) (hc : P.cellsOf e = 1) (hb : P.bytesOf e = 1)
    (h : DataW.trod enc P w base spare held fuel t cs = some x) (hz : Sized P t x.1) :
    ∃ A c l, cs = [.slice A l.length c] ∧ l.length ≤ c ∧ c ≤ maxLen ∧ Rd w A l ∧ l.length ≤ 140737488351232 ∧ (A = none → c = 0) := by
  rcases open_ints ht he hc h with ⟨rfl, _⟩ | ⟨a, len, cap, zs, rfl, _, hl, hm, hzl, hx, hcell, hwf⟩
  · exact ⟨none, 0, [], rfl, Nat.le_refl _, Nat.zero_le _, Rd.nil _ _, by simp, fun _ => rfl⟩
  · have hlz : len ≤ zs.length := by rw [hzl]; split <;> omega
    subst hx
    have hsz := Sized.len hz ht
    simp only [lits, List.length_map, List.length_take, List.length_drop, hb, reach_val] at hsz
    refine ⟨some a, cap, (zs.take len).map fun n => UInt8.ofNat n.toNat, by simp [Nat.min_eq_left hlz], by simp; omega, hm, rdv_of_add fun j hj => ?_, by simp; omega, fun e => by cases e⟩
    simp at hj
    rw [hcell j (by omega)]
    have hb := bounds_u8 (hwf (zs.getD j 0) (by rw [List.getD_eq_getElem?_getD, List.getElem?_eq_getElem (by omega)]; exact List.getElem_mem _))
    simp only [List.getElem_map, List.getElem_take, bv]
    rw [List.getD_eq_getElem?_getD, List.getElem?_eq_getElem (by omega)] at hb ⊢
    simp only [Option.getD_some] at hb ⊢
    have : ((UInt8.ofNat zs[j].toNat).toNat : Int) = zs[j] := by
      rw [UInt8.toNat_ofNat', Nat.mod_eq_of_lt (by omega)]; omega
    rw [this]

/-- A row of integers. -/
theorem open_words {t e : TypeId} {fuel : Nat} {cs : List Value} {x : DataW H × List MemPlace} (ht : P.underlying t = some (.slice e)) (he : P.underlying e = some (.int .i64)) (hc : P.cellsOf e = 1) (hb : P.bytesOf e = 8)
    (h : DataW.trod enc P w base spare held fuel t cs = some x) (hz : Sized P t x.1) :
    ∃ (A : Option Addr) (c : Nat) (l : List Int), cs = [.slice A l.length c] ∧ l.length ≤ c ∧ c ≤ maxLen ∧ RdV w A (l.map fun n => .int .i64 n) ∧ l.length ≤ 17592186043904 ∧ ∀ n ∈ l, -9223372036854775808 ≤ n ∧ n ≤ 9223372036854775807 := by
  rcases open_ints ht he hc h with ⟨rfl, _⟩ | ⟨a, len, cap, zs, rfl, _, hl, hm, hzl, hx, hcell, hwf⟩
  · exact ⟨none, 0, [], rfl, Nat.le_refl _, Nat.zero_le _, RdV.nil _ _, by simp, by simp⟩
  · have hlz : len ≤ zs.length := by rw [hzl]; split <;> omega
    subst hx
    have hsz := Sized.len hz ht
    simp only [lits, List.length_map, List.length_take, List.length_drop, hb, reach_val] at hsz
    refine ⟨some a, cap, zs.take len, by simp [Nat.min_eq_left hlz], by simp; omega, hm, rdv_of_add fun j hj => ?_, by simp; omega, fun n hn => bounds_i64 (hwf n (List.mem_of_mem_take hn))⟩
    simp at hj
    rw [hcell j (by omega)]
    simp only [List.getElem_map, List.getElem_take]
    rw [List.getD_eq_getElem?_getD, List.getElem?_eq_getElem (by omega)]
    rfl

/-- A list of rows of bytes. -/
theorem open_rows {t e q : TypeId} {fuel : Nat} {cs : List Value} {x : DataW H × List MemPlace} (ht : P.underlying t = some (.slice e)) (he : P.underlying e = some (.slice q)) (hq : P.underlying q = some (.int .u8))
    (ce : P.cellsOf e = 1) (cq : P.cellsOf q = 1) (hb : P.bytesOf q = 1) (hbe : P.bytesOf e = 24) (h : DataW.trod enc P w base spare held fuel t cs = some x) (hz : Sized P t x.1) :
    ∃ A c ks, cs = [.slice A ks.length c] ∧ ks.length ≤ c ∧ c ≤ maxLen ∧ RdL w A ks ∧ ks.length ≤ 5864062014634 ∧ (∀ k ∈ ks, k.2.2.length ≤ 140737488351232 ∧ k.2.2.length ≤ k.2.1 ∧ k.2.1 ≤ maxLen) := by
  rcases open_slice1 ht ce h with ⟨rfl, _⟩ | ⟨a, len, cap, m, n, V, D, Pl, rfl, _, hl, hm, hmm, hx, hi⟩
  · exact ⟨none, 0, [], rfl, Nat.le_refl _, Nat.zero_le _, RdL.nil _ _, by simp, by simp⟩
  · have hlm : len ≤ m := by rw [hmm]; split <;> omega
    subst hx
    have hsz := Sized.len hz ht
    simp only [List.length_map, List.length_range, hbe, reach_val] at hsz
    have each : ∀ i, i < len → ∃ k : Option Addr × Nat × List UInt8, V i = slOf k ∧ Rd w k.1 k.2.2 ∧ k.2.2.length ≤ 140737488351232 ∧ k.2.2.length ≤ k.2.1 ∧ k.2.1 ≤ maxLen := fun i hil => by
      have hD : Sized P e (D i) := Sized.elem hz ht (List.mem_map.2 ⟨i, List.mem_range.2 hil, rfl⟩)
      obtain ⟨A, c, l, h1, h2, h3, h4, h5, _⟩ := open_bytes he hq cq hb (hi i (by omega)).2 hD
      exact ⟨(A, c, l), by simpa [slOf] using h1, h4, h5, h2, h3⟩
    obtain ⟨f, hf⟩ := choose_lt each
    refine ⟨some a, cap, (List.range len).map f, by simp, by simpa using hl, hm, ⟨rdv_of_add fun j hj => ?_, fun k hk => ?_⟩, by simp; omega, fun k hk => ?_⟩
    · simp at hj
      rw [(hi j (by omega)).1, (hf j hj).1]
      simp
    · obtain ⟨j, hj, rfl⟩ := List.mem_map.1 hk
      exact (hf j (List.mem_range.1 hj)).2.1
    · obtain ⟨j, hj, rfl⟩ := List.mem_map.1 hk
      exact (hf j (List.mem_range.1 hj)).2.2
end
end Go.Proofs.Ytndfgijdcanbaaa
