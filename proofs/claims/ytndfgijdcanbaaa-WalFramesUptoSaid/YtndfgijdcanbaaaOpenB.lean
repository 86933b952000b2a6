/- A list of rows of bytes that comes in: its bulk bounds its bytes. -/
import Derived.Test.YtndfgijdcanbaaaRows
import Derived.Test.YtndfgijdcanbaaaOpen
namespace Go.Proofs.Ytndfgijdcanbaaa
open Go.ChangeShapes Go.WideShapes Go.ChangeAt Go.RowKit Go.Deep
set_option linter.unusedVariables false

theorem bulk_one {H : Type} (d : DataW H) : 1 ≤ Rows.uptoBulk d := by
  cases d with
  | lit l => cases l <;> simp [Rows.uptoBulk]
  | nil => simp [Rows.uptoBulk]
  | ptr d => simp [Rows.uptoBulk]
  | slice elems spare => simp [Rows.uptoBulk]
  | agg parts => simp [Rows.uptoBulk]
  | iface t d => simp [Rows.uptoBulk]
  | map entries => simp [Rows.uptoBulk]
  | held h => simp [Rows.uptoBulk]
theorem bulk_len {H : Type} : ∀ l : List (DataW H), l.length ≤ Rows.uptoBulkAll l
  | [] => Nat.zero_le _
  | d :: l => by have h1 := bulk_one d; have h2 := bulk_len l; simp only [List.length_cons, Rows.uptoBulkAll]; omega
theorem bulk_slice {H : Type} (elems spare : List (DataW H)) : Rows.uptoBulkAll elems ≤ Rows.uptoBulk (.slice elems spare) := by
  simp only [Rows.uptoBulk]
  omega
section
variable {H : Type} {P : Program} {enc : TypeId × Value → H} {w : World} {base : Nat} {spare : Nat → Bool} {held : Bool}
theorem open_bytesB {t e : TypeId} {fuel : Nat} {cs : List Value} {x : DataW H × List MemPlace} (ht : P.underlying t = some (.slice e)) (he : P.underlying e = some (.int .u8)) (hc : P.cellsOf e = 1)
    (h : DataW.trod enc P w base spare held fuel t cs = some x) : ∃ A n c, cs = [.slice A n c] ∧ n ≤ Rows.uptoBulk x.1 := by
  rcases open_ints ht he hc h with ⟨rfl, _⟩ | ⟨a, len, cap, zs, rfl, _, hl, hm, hzl, hx, hcell, hwf⟩
  · exact ⟨none, 0, 0, rfl, Nat.zero_le _⟩
  · have hlz : len ≤ zs.length := by rw [hzl]; split <;> omega
    subst hx
    refine ⟨some a, len, cap, rfl, Nat.le_trans ?_ (bulk_slice _ _)⟩
    refine Nat.le_trans ?_ (bulk_len _)
    simp [lits, Nat.min_eq_left hlz]
theorem bulk_rows {f : Nat → Option Addr × Nat × List UInt8} {D : Nat → DataW H} : ∀ (l : List Nat), (∀ i ∈ l, (f i).2.2.length ≤ Rows.uptoBulk (D i)) → (txt (l.map f)).flatten.length ≤ Rows.uptoBulkAll (l.map D)
  | [], _ => by simp [txt]
  | i :: l, h => by
    have h1 := h i List.mem_cons_self
    have h2 := bulk_rows l fun j hj => h j (List.mem_cons_of_mem _ hj)
    simp only [txt, List.map_cons, List.flatten_cons, List.length_append, Rows.uptoBulkAll] at h2 ⊢
    omega
/-- A list of rows of bytes. -/
theorem open_rowsB {t e q : TypeId} {fuel : Nat} {cs : List Value} {x : DataW H × List MemPlace} (ht : P.underlying t = some (.slice e)) (he : P.underlying e = some (.slice q)) (hq : P.underlying q = some (.int .u8))
    (ce : P.cellsOf e = 1) (cq : P.cellsOf q = 1) (hb : P.bytesOf q = 1) (hbe : P.bytesOf e = 24) (h : DataW.trod enc P w base spare held fuel t cs = some x) (hz : Sized P t x.1) :
    ∃ A c ks, cs = [.slice A ks.length c] ∧ ks.length ≤ c ∧ c ≤ maxLen ∧ RdL w A ks ∧ (∀ k ∈ ks, k.2.2.length ≤ k.2.1 ∧ k.2.1 ≤ maxLen) ∧ (txt ks).flatten.length ≤ Rows.uptoBulk x.1 := by
  rcases open_slice1 ht ce h with ⟨rfl, _⟩ | ⟨a, len, cap, m, n, V, D, Pl, rfl, _, hl, hm, hmm, hx, hi⟩
  · exact ⟨none, 0, [], rfl, Nat.le_refl _, Nat.zero_le _, RdL.nil _ _, by simp, by simp [txt]⟩
  · have hlm : len ≤ m := by rw [hmm]; split <;> omega
    subst hx
    have each : ∀ i, i < len → ∃ k : Option Addr × Nat × List UInt8, V i = slOf k ∧ Rd w k.1 k.2.2 ∧ k.2.2.length ≤ Rows.uptoBulk (D i) ∧ k.2.2.length ≤ k.2.1 ∧ k.2.1 ≤ maxLen := fun i hil => by
      have hD : Sized P e (D i) := Sized.elem hz ht (List.mem_map.2 ⟨i, List.mem_range.2 hil, rfl⟩)
      obtain ⟨A, c, l, h1, h2, h3, h4, h5, _⟩ := open_bytes he hq cq hb (hi i (by omega)).2 hD
      obtain ⟨A', n', c', h6, h7⟩ := open_bytesB he hq cq (hi i (by omega)).2
      rw [h1] at h6
      injection h6 with h6
      injection h6 with _ h6
      have h8 : n' ≤ Rows.uptoBulk (D i) := h7
      have h9 : l.length ≤ Rows.uptoBulk (D i) := h6 ▸ h8
      exact ⟨(A, c, l), by simpa [slOf] using h1, h4, h9, h2, h3⟩
    obtain ⟨f, hf⟩ := choose_lt each
    refine ⟨some a, cap, (List.range len).map f, by simp, by simpa using hl, hm, ⟨rdv_of_add fun j hj => ?_, fun k hk => ?_⟩, fun k hk => ?_, ?_⟩
    · simp at hj
      rw [(hi j (by omega)).1, (hf j hj).1]
      simp
    · obtain ⟨j, hj, rfl⟩ := List.mem_map.1 hk
      exact (hf j (List.mem_range.1 hj)).2.1
    · obtain ⟨j, hj, rfl⟩ := List.mem_map.1 hk
      exact (hf j (List.mem_range.1 hj)).2.2.2
    · exact Nat.le_trans (bulk_rows _ fun i hi => (hf i (List.mem_range.1 hi)).2.2.1) (bulk_slice _ _)
end
end Go.Proofs.Ytndfgijdcanbaaa
