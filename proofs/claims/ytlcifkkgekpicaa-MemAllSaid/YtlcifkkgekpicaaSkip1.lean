/- The table's before: reads alone. -/
import Derived.Test.YtlcifkkgekpicaaSkip
namespace Go.Proofs.Ytlcifkkgekpicaa
open Go.RowKit
set_option linter.unusedVariables false

def ahead (e : Ent) (ns : List Nd) : List Nd := ns.takeWhile fun n => lessE n.e.ent e
/-- The last block ahead that has a level. -/
def lastAt (b : Nat) : List Nd → Nat → Nat
  | [], _ => b
  | n :: ns, i => if i < n.v then lastAt n.a ns i else lastAt b ns i
theorem lastAt_app (s : List Nd) (i : Nat) : ∀ (p : List Nd) (b : Nat), lastAt b (p ++ s) i = lastAt (lastAt b p i) s i
  | [], b => rfl
  | n :: p, b => by
    show (if i < n.v then lastAt n.a (p ++ s) i else lastAt b (p ++ s) i) = lastAt (if i < n.v then lastAt n.a p i else lastAt b p i) s i
    by_cases h : i < n.v
    · rw [if_pos h, if_pos h]; exact lastAt_app s i p n.a
    · rw [if_neg h, if_neg h]; exact lastAt_app s i p b
theorem lastAt_low {i : Nat} : ∀ {s : List Nd} {b : Nat}, (∀ n ∈ s, n.v ≤ i) → lastAt b s i = b
  | [], _, _ => rfl
  | n :: s, b, h => by
    unfold lastAt
    rw [if_neg (by have := h n List.mem_cons_self; omega)]
    exact lastAt_low fun x hx => h x (List.mem_cons_of_mem _ hx)
theorem ahead_app {e : Ent} {p s : List Nd} (h : ∀ n ∈ p, LTE n.e.ent e) : ahead e (p ++ s) = p ++ ahead e s := by
  unfold ahead
  exact List.takeWhile_append_of_pos fun n hn => h n hn
theorem mem_ahead {e : Ent} {n : Nd} : ∀ {s : List Nd}, n ∈ ahead e s → n ∈ s ∧ LTE n.e.ent e
  | [], h => by simp [ahead] at h
  | m :: s, h => by
    unfold ahead at h
    rw [List.takeWhile_cons] at h
    split at h
    · rename_i hl
      rcases List.mem_cons.1 h with h | h
      · subst h; exact ⟨List.mem_cons_self, hl⟩
      · have := mem_ahead (s := s) h; exact ⟨List.mem_cons_of_mem _ this.1, this.2⟩
    · cases h
/-- A place in the table: the nodes up to it, those behind it, its block, its links. -/
structure Plc (w : World) (b : Nat) (ns : List Nd) (e : Ent) (k : Nat) (p s : List Nd) (A R h : Nat) : Prop where
  eq : ns = p ++ s
  low : ∀ n ∈ p, LTE n.e.ent e
  done : ∀ n ∈ s, LTE n.e.ent e → n.v ≤ k
  hk : k ≤ h
  head : w.cell? ⟨A, 0, none⟩ = some (.slice (some ⟨R, 0, none⟩) h h)
  links : ∀ i, i < h → w.cell? ⟨R, i, none⟩ = some (ptrN (nxt noT s i))
  last : ∀ j, j < h → lastAt b p j = A
section
variable {w w' : World} {b hr k A R h : Nat} {ns p s : List Nd} {e : Ent}
theorem Plc.new (x : Plc w b ns e k p s A R h) (c : Chg No w w') : Plc w' b ns e k p s A R h := ⟨x.eq, x.low, x.done, x.hk, c.cell x.head id, fun i hi => c.cell (x.links i hi) id, x.last⟩
theorem View.plc (v : View w b hr ns) (hok : NOk ns) (e : Ent) : Plc w b ns e 8 [] ns b hr 8 :=
  ⟨rfl, by simp, fun n hn _ => by have := hok.full n hn; omega, Nat.le_refl _, v.head, v.links, fun _ _ => rfl⟩
/-- On to a node that stands ahead. -/
theorem Plc.step (x : Plc w b ns e (k + 1) p s A R h) (v : View w b hr ns) (hok : NOk ns) {q t : List Nd} {m : Nd} (hs : s = q ++ m :: t) (hm : k < m.v) (hl : LTE m.e.ent e) :
    Plc w b ns e (k + 1) (p ++ (q ++ [m])) t m.a m.r m.h := by
  have he := x.eq
  subst hs
  have hf := hok.full m (by rw [he]; simp)
  obtain ⟨h1, _, _, _, _, h6, _⟩ := v.node (p ++ q) m t (by rw [he]; simp)
  refine ⟨by rw [he]; simp, fun n hn => ?_, fun n hn => x.done n (by simp [hn]), by omega, h1, h6, fun j hj => ?_⟩
  · rcases List.mem_append.1 hn with hn | hn
    · exact x.low n hn
    · rcases List.mem_append.1 hn with hn | hn
      · have hsort := hok.sort
        rw [he, List.pairwise_append] at hsort
        have h2 := hsort.2.1
        rw [List.pairwise_append] at h2
        exact lte_trans (h2.2.2 n hn m List.mem_cons_self) hl
      · simp at hn; subst hn; exact hl
  · rw [lastAt_app, lastAt_app]
    show (if j < m.v then _ else _) = _
    rw [if_pos (by omega)]
    rfl
/-- No node on this level stands ahead any more: one level down. -/
theorem Plc.down (x : Plc w b ns e (k + 1) p s A R h) (hd : ∀ n ∈ s, LTE n.e.ent e → n.v ≤ k) : Plc w b ns e k p s A R h := ⟨x.eq, x.low, hd, by have := x.hk; omega, x.head, x.links, x.last⟩
theorem Plc.here (x : Plc w b ns e (k + 1) p s A R h) (hd : ∀ n ∈ s, LTE n.e.ent e → n.v ≤ k) : lastAt b (ahead e ns) k = A := by
  have he := x.eq
  rw [he, ahead_app x.low, lastAt_app, x.last k (by have := x.hk; omega)]
  exact lastAt_low fun n hn => hd n (mem_ahead hn).1 (mem_ahead hn).2
theorem done_none (x : Plc w b ns e (k + 1) p s A R h) (hn : ∀ n ∈ s, n.v ≤ k) : ∀ n ∈ s, LTE n.e.ent e → n.v ≤ k := fun n h _ => hn n h
theorem done_some (x : Plc w b ns e (k + 1) p s A R h) (hok : NOk ns) {q t : List Nd} {m : Nd} (hs : s = q ++ m :: t) (hq : ∀ n ∈ q, n.v ≤ k) (hl : ¬ LTE m.e.ent e) : ∀ n ∈ s, LTE n.e.ent e → n.v ≤ k := by
  intro n hn hl2
  have he := x.eq
  subst hs
  rcases List.mem_append.1 hn with hn | hn
  · exact hq n hn
  · have hsort := hok.sort
    rw [he, List.pairwise_append] at hsort
    have h2 := hsort.2.1
    rw [List.pairwise_append, List.pairwise_cons] at h2
    rcases List.mem_cons.1 hn with e | hn
    · subst e; exact absurd hl2 hl
    · exact absurd (lte_trans (h2.2.1.1 n hn) hl2) hl
end
/-- How many nodes there are from a block on. -/
def rank (ns : List Nd) (v : Value) : Nat := match v with | .pointer (some A) => (ns.dropWhile fun n => decide (n.a ≠ A.block)).length | _ => 0
theorem rank_at {ns p s : List Nd} {m : Nd} (hd : (ns.map Nd.a).Nodup) (h : ns = p ++ m :: s) : rank ns (.pointer (some ⟨m.a, 0, none⟩)) = s.length + 1 := by
  subst h
  show ((p ++ m :: s).dropWhile fun n => decide (n.a ≠ m.a)).length = _
  have hp : ∀ n ∈ p, decide (n.a ≠ m.a) = true := fun n hn => by
    rw [List.map_append, List.nodup_append] at hd
    have := hd.2.2 n.a (List.mem_map_of_mem hn) m.a (by simp)
    simpa using this
  rw [List.dropWhile_append_of_pos hp, List.dropWhile_cons]
  simp
theorem rank_nxt {ns p s : List Nd} {i : Nat} (hd : (ns.map Nd.a).Nodup) (h : ns = p ++ s) : rank ns (ptrN (nxt noT s i)) ≤ s.length := by
  rcases nxt_cases s i with ⟨h1, _⟩ | ⟨q, m, t, hs, h2, _, _⟩
  · rw [h1]; exact Nat.zero_le _
  · rw [h2]
    have := rank_at (p := p ++ q) (s := t) (m := m) hd (by rw [h, hs]; simp)
    show rank ns (.pointer (some ⟨m.a, 0, none⟩)) ≤ _
    rw [this, hs]; simp
def outC (b : Nat) (ps : List Nd) (k : Nat) : Array Value := ((List.range 8).map fun j => if k ≤ j then ptrN (some (lastAt b ps j)) else ptrN none).toArray
theorem outC_set (b : Nat) (ps : List Nd) (k : Nat) (hk : k < 8) : (outC b ps (k + 1)).setIfInBounds k (.pointer (some ⟨lastAt b ps k, 0, none⟩)) = outC b ps k := by
  apply Array.ext'
  apply List.ext_getElem?
  intro j
  unfold outC
  simp only [List.setIfInBounds_toArray, List.getElem?_set, List.getElem?_map, List.length_map, List.length_range]
  by_cases hj : j < 8
  · rw [List.getElem?_range hj]
    by_cases e : k = j
    · subst e; simp [hk, ptrN]
    · have : (k + 1 ≤ j) = (k ≤ j) := by apply propext; omega
      simp [e, this]
  · simp [hj, show ¬ k = j by omega]
end Go.Proofs.Ytlcifkkgekpicaa
