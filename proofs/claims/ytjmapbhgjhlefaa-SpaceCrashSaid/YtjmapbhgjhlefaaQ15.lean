/- Joined, as they were built one by one: Open2. -/
import Derived.OpenShut
import Derived.Test.YtjmapbhgjhlefaaQ14
namespace Go.Proofs.Ytjmapbhgjhlefaa
open Go.RowKit Go.ChangeShapes Go.WideShapes Go.Deep
set_option linter.unusedVariables false
set_option maxRecDepth 100000

theorem flatk {α : Type} {k : Nat} {f : α → List Value} (hf : ∀ x, (f x).length = k) : ∀ (l : List α) (i j : Nat) (hi : i < l.length) (hj : j < k), (l.flatMap f)[i * k + j]? = (f l[i])[j]?
  | [], i, j, hi, hj => by simp at hi
  | x :: l, 0, j, hi, hj => by
    rw [List.flatMap_cons, Nat.zero_mul, Nat.zero_add, List.getElem?_append_left (by rw [hf]; exact hj)]; rfl
  | x :: l, i + 1, j, hi, hj => by
    have e : (i + 1) * k + j - k = i * k + j := by rw [Nat.add_mul]; omega
    rw [List.flatMap_cons, List.getElem?_append_right (by rw [hf, Nat.add_mul]; omega), hf, e]
    have := flatk hf l i j (by simpa using hi) hj
    rw [this]
    rfl
theorem flatk_len {α : Type} {k : Nat} {f : α → List Value} (hf : ∀ x, (f x).length = k) : ∀ (l : List α), (l.flatMap f).length = l.length * k
  | [] => by simp
  | x :: l => by rw [List.flatMap_cons, List.length_append, hf, flatk_len hf l, List.length_cons, Nat.add_mul]; omega
/-- The cells of one element. -/
theorem RdV.elem {α : Type} {k : Nat} {f : α → List Value} (hf : ∀ x, (f x).length = k) (hk : 0 < k) {w : World} {A : Option Addr} {l : List α} (h : RdV w A (l.flatMap f)) {i : Nat} (hi : i < l.length) :
    ∃ b o, A = some ⟨b, o, none⟩ ∧ ∀ r, r < k → w.cell? ⟨b, o + (i * k + r), none⟩ = (f l[i])[r]? := by
  have hl := flatk_len hf l
  have hlt : ∀ r, r < k → i * k + r < (l.flatMap f).length := fun r hr => by
    rw [hl]
    have := Nat.mul_le_mul_right k (show i + 1 ≤ l.length from hi)
    rw [Nat.add_mul] at this
    omega
  obtain ⟨b, o, e, hc⟩ := h (by intro e; have := hlt 0 hk; rw [e] at this; simp at this)
  refine ⟨b, o, e, fun r hr => ?_⟩
  rw [hc _ (hlt r hr), ← flatk hf l i r hi hr, List.getElem?_eq_getElem]
section
variable {H : Type} {enc : TypeId × Value → H} {P : Program} {w : World} {base : Nat} {spare : Nat → Bool} {held : Bool}
theorem open_elems {α : Type} [Inhabited α] (f : α → List Value) (good : α → Prop) (k bt : Nat) {t e : TypeId} {fuel : Nat} {cs : List Value} {x : DataW H × List MemPlace} (ht : P.underlying t = some (.slice e)) (hk : P.cellsOf e = k) (hb : P.bytesOf e = bt)
    (hf : ∀ x, (f x).length = k) (hpos : 0 < k) (each : ∀ n cs x, DataW.trod enc P w base spare held n e cs = some x → Sized P e x.1 → ∃ y, cs = f y ∧ good y)
    (h : DataW.trod enc P w base spare held fuel t cs = some x) (hz : Sized P t x.1) :
    ∃ (A : Option Addr) (c : Nat) (l : List α), cs = [.slice A l.length c] ∧ l.length ≤ c ∧ c ≤ maxLen ∧ RdV w A (l.flatMap f) ∧ l.length * bt ≤ 140737488351232 ∧ ∀ y ∈ l, good y := by
  rcases open_slice ht h with ⟨rfl, _⟩ | ⟨a, len, cap, m, n, D, Pl, rfl, hba, hl, hm, hmm, hx, hi⟩
  · exact ⟨none, 0, [], rfl, Nat.le_refl _, Nat.zero_le _, RdV.nil _ _, by simp, by simp⟩
  · have hlm : len ≤ m := by rw [hmm]; split <;> omega
    subst hx
    have hsz := Sized.len hz ht
    simp only [List.length_map, List.length_range, hb, reach_val] at hsz
    have each' : ∀ i, i < len → ∃ y : α, good y ∧ ∀ j, j < k → w.cell? (a.add (i * k + j)) = (f y)[j]? := fun i hil => by
      have hD : Sized P e (D i) := Sized.elem hz ht (List.mem_map.2 ⟨i, List.mem_range.2 hil, rfl⟩)
      obtain ⟨cs', hc, htr⟩ := hi i (by omega)
      obtain ⟨y, hy, hg⟩ := each _ _ _ htr hD
      refine ⟨y, hg, fun j hj => ?_⟩
      obtain ⟨_, _, h3⟩ := World.cells?_some hc
      rw [hk] at h3
      have := h3 j hj
      rw [hy, add_add] at this
      exact this
    obtain ⟨g, hg⟩ := choose_lt each'
    refine ⟨some a, cap, (List.range len).map g, by simp, by simpa using hl, hm, rdv_of_add fun j hj => ?_, ?_, fun y hy => ?_⟩
    · have hlen := flatk_len hf ((List.range len).map g)
      simp only [List.length_map, List.length_range] at hlen
      rw [hlen] at hj
      have hq : j / k < len := Nat.div_lt_of_lt_mul (by rw [Nat.mul_comm]; exact hj)
      have hr : j % k < k := Nat.mod_lt _ hpos
      have h1 := (hg (j / k) hq).2 (j % k) hr
      have h2 := flatk hf ((List.range len).map g) (j / k) (j % k) (by simpa using hq) hr
      have hjk : j / k * k + j % k = j := Nat.div_add_mod' j k
      rw [hjk] at h1 h2
      rw [h1]
      simp only [List.getElem_map, List.getElem_range] at h2
      rw [← h2, List.getElem?_eq_getElem (by rw [hlen]; exact hj)]
    · simp only [List.length_map, List.length_range]
      have := Nat.mul_le_mul_right bt (show len ≤ len + (m - len) by omega)
      omega
    · obtain ⟨j, hj, rfl⟩ := List.mem_map.1 hy
      exact (hg j (List.mem_range.1 hj)).1
def isI64 (n : Int) : Prop := -9223372036854775808 ≤ n ∧ n ≤ 9223372036854775807
theorem arr_at {t q : TypeId} {n fuel : Nat} {cs : List Value} {x : DataW H × List MemPlace} (ht : P.underlying t = some (.array n q)) (hq : P.underlying q = some (.int .i64)) (cq : P.cellsOf q = 1) (ct : P.cellsOf t = n)
    (h : DataW.trod enc P w base spare held fuel t cs = some x) : cs.length = n ∧ ∀ i, i < n → ∃ a : Int, cs[i]? = some (.int .i64 a) ∧ isI64 a := by
  obtain ⟨xs, m, _, _, hl, hxl, hi⟩ := DataW.trod_array ht h
  rw [ct] at hl
  refine ⟨hl, fun i hin => ?_⟩
  have h1 := hi i hin
  rw [cq, Nat.mul_one, List.getElem?_eq_getElem (by omega)] at h1
  obtain ⟨a, e1, _, hw⟩ := DataW.trod_int hq h1
  refine ⟨a, ?_, bounds_i64 hw⟩
  have h2 := congrArg (fun l => l[0]?) e1
  simpa [List.getElem?_take, List.getElem?_drop] using h2
def v2 (x : Int × Int) : List Value := [.int .i64 x.1, .int .i64 x.2]
def v3 (x : Int × Int × Int) : List Value := [.int .i64 x.1, .int .i64 x.2.1, .int .i64 x.2.2]
def v4 (x : Int × Int × Int × Int) : List Value := [.int .i64 x.1, .int .i64 x.2.1, .int .i64 x.2.2.1, .int .i64 x.2.2.2]
theorem open_two {t e q : TypeId} {fuel : Nat} {cs : List Value} {x : DataW H × List MemPlace} (ht : P.underlying t = some (.slice e)) (he : P.underlying e = some (.array 2 q)) (hq : P.underlying q = some (.int .i64)) (cq : P.cellsOf q = 1) (ce : P.cellsOf e = 2) (be : P.bytesOf e = 16)
    (h : DataW.trod enc P w base spare held fuel t cs = some x) (hz : Sized P t x.1) :
    ∃ (A : Option Addr) (c : Nat) (l : List (Int × Int)), cs = [.slice A l.length c] ∧ l.length ≤ c ∧ c ≤ maxLen ∧ RdV w A (l.flatMap v2) ∧ l.length * 16 ≤ 140737488351232 ∧ ∀ y ∈ l, isI64 y.1 ∧ isI64 y.2 := by
  refine open_elems v2 (fun y => isI64 y.1 ∧ isI64 y.2) 2 16 ht ce be (fun _ => rfl) (by decide) (fun n cs x hx _ => ?_) h hz
  obtain ⟨hl, hi⟩ := arr_at he hq cq ce hx
  obtain ⟨a, ha, wa⟩ := hi 0 (by decide)
  obtain ⟨b, hb, wb⟩ := hi 1 (by decide)
  refine ⟨(a, b), ?_, wa, wb⟩
  match cs, hl with
  | [u, v], _ => simp at ha hb; rw [ha, hb]; rfl
theorem open_three {t e q : TypeId} {fuel : Nat} {cs : List Value} {x : DataW H × List MemPlace} (ht : P.underlying t = some (.slice e)) (he : P.underlying e = some (.array 3 q)) (hq : P.underlying q = some (.int .i64)) (cq : P.cellsOf q = 1) (ce : P.cellsOf e = 3) (be : P.bytesOf e = 24)
    (h : DataW.trod enc P w base spare held fuel t cs = some x) (hz : Sized P t x.1) :
    ∃ (A : Option Addr) (c : Nat) (l : List (Int × Int × Int)), cs = [.slice A l.length c] ∧ l.length ≤ c ∧ c ≤ maxLen ∧ RdV w A (l.flatMap v3) ∧ l.length * 24 ≤ 140737488351232 ∧ ∀ y ∈ l, isI64 y.1 ∧ isI64 y.2.1 ∧ isI64 y.2.2 := by
  refine open_elems v3 (fun y => isI64 y.1 ∧ isI64 y.2.1 ∧ isI64 y.2.2) 3 24 ht ce be (fun _ => rfl) (by decide) (fun n cs x hx _ => ?_) h hz
  obtain ⟨hl, hi⟩ := arr_at he hq cq ce hx
  obtain ⟨a, ha, wa⟩ := hi 0 (by decide)
  obtain ⟨b, hb, wb⟩ := hi 1 (by decide)
  obtain ⟨c, hc, wc⟩ := hi 2 (by decide)
  refine ⟨(a, b, c), ?_, wa, wb, wc⟩
  match cs, hl with
  | [u, v, z], _ => simp at ha hb hc; rw [ha, hb, hc]; rfl
theorem open_four {t e q : TypeId} {fuel : Nat} {cs : List Value} {x : DataW H × List MemPlace} (ht : P.underlying t = some (.slice e)) (he : P.underlying e = some (.array 4 q)) (hq : P.underlying q = some (.int .i64)) (cq : P.cellsOf q = 1) (ce : P.cellsOf e = 4) (be : P.bytesOf e = 32)
    (h : DataW.trod enc P w base spare held fuel t cs = some x) (hz : Sized P t x.1) :
    ∃ (A : Option Addr) (c : Nat) (l : List (Int × Int × Int × Int)), cs = [.slice A l.length c] ∧ l.length ≤ c ∧ c ≤ maxLen ∧ RdV w A (l.flatMap v4) ∧ l.length * 32 ≤ 140737488351232 ∧ ∀ y ∈ l, isI64 y.1 ∧ isI64 y.2.1 ∧ isI64 y.2.2.1 ∧ isI64 y.2.2.2 := by
  refine open_elems v4 (fun y => isI64 y.1 ∧ isI64 y.2.1 ∧ isI64 y.2.2.1 ∧ isI64 y.2.2.2) 4 32 ht ce be (fun _ => rfl) (by decide) (fun n cs x hx _ => ?_) h hz
  obtain ⟨hl, hi⟩ := arr_at he hq cq ce hx
  obtain ⟨a, ha, wa⟩ := hi 0 (by decide)
  obtain ⟨b, hb, wb⟩ := hi 1 (by decide)
  obtain ⟨c, hc, wc⟩ := hi 2 (by decide)
  obtain ⟨d, hd, wd⟩ := hi 3 (by decide)
  refine ⟨(a, b, c, d), ?_, wa, wb, wc, wd⟩
  match cs, hl with
  | [u, v, z, y], _ => simp at ha hb hc hd; rw [ha, hb, hc, hd]; rfl
/-- A row of bools. -/
theorem open_bools {t e : TypeId} {fuel : Nat} {cs : List Value} {x : DataW H × List MemPlace} (ht : P.underlying t = some (.slice e)) (he : P.underlying e = some .bool) (ce : P.cellsOf e = 1) (be : P.bytesOf e = 1)
    (h : DataW.trod enc P w base spare held fuel t cs = some x) (hz : Sized P t x.1) :
    ∃ (A : Option Addr) (c : Nat) (l : List Bool), cs = [.slice A l.length c] ∧ l.length ≤ c ∧ c ≤ maxLen ∧ RdV w A (l.map Value.bool) ∧ l.length ≤ 140737488351232 := by
  obtain ⟨A, c, l, h1, h2, h3, h4, h5, _⟩ := open_elems (fun b : Bool => [Value.bool b]) (fun _ => True) 1 1 ht ce be (fun _ => rfl) (by decide) (fun n cs x hx _ => by
    obtain ⟨b, hb, _⟩ := DataW.trod_bool he hx
    exact ⟨b, hb, trivial⟩) h hz
  refine ⟨A, c, l, h1, h2, h3, ?_, by omega⟩
  have e : l.flatMap (fun b : Bool => [Value.bool b]) = l.map Value.bool := by
    rw [List.flatMap_def]
    clear h1 h2 h4 h5
    rename_i hq
    clear hq
    induction l with
    | nil => rfl
    | cons b l ih => rw [List.map_cons, List.flatten_cons, ih]; rfl
  rwa [e] at h4
end
end Go.Proofs.Ytjmapbhgjhlefaa
