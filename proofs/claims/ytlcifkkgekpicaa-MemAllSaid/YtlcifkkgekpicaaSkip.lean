/- The skip list as a part of memory. -/
import Derived.Test.YtlcifkkgekpicaaMem4
namespace Go.Proofs.Ytlcifkkgekpicaa
open Go.RowKit
set_option linter.unusedVariables false

/-- A node: its block, its links' block, its entry, how many links it has, on how many levels it is linked. -/
structure Nd where
  a : Nat
  r : Nat
  e : En
  h : Nat
  v : Nat
/-- The block of the first node of a level, or what stands behind. -/
def nxt (t : Nat → Option Nat) (ns : List Nd) (i : Nat) : Option Nat := match ns.find? (fun n => decide (i < n.v)) with | some n => some n.a | none => t i
def ptrN (o : Option Nat) : Value := .pointer (o.map fun b => ⟨b, 0, none⟩)
/-- A row of links: h of them, v of them laid. -/
def rowN (f : Nat → Option Nat) (h v : Nat) : Array Value := ((List.range h).map fun j => if j < v then ptrN (f j) else ptrN none).toArray
def nodeC (n : Nd) : Array Value := #[.slice (some ⟨n.r, 0, none⟩) n.h n.h, slv' n.e.key, slv' n.e.value, .int .i64 n.e.seq, .bool n.e.dead]
def NodeP (n : Nd) (f : Nat → Option Nat) : SP := Pt n.a 81 (nodeC n) * Pt n.r 79 (rowN f n.h n.v)
def NodesG (t : Nat → Option Nat) : List Nd → SP
  | [] => Emp
  | n :: ns => NodeP n (nxt t ns) * NodesG t ns
def noT : Nat → Option Nat := fun _ => none
section
variable {t t' : Nat → Option Nat} {n m : Nd} {ns p s : List Nd} {i j h v : Nat}
theorem nxt_nil : nxt t [] = t := rfl
theorem nxt_cons (t : Nat → Option Nat) (n : Nd) (ns : List Nd) (i : Nat) : nxt t (n :: ns) i = if i < n.v then some n.a else nxt t ns i := by
  unfold nxt
  rw [List.find?_cons]
  by_cases h : i < n.v
  · simp [h]
  · simp [h]
theorem nxt_app (t : Nat → Option Nat) (s : List Nd) : ∀ p : List Nd, nxt t (p ++ s) = nxt (nxt t s) p
  | [] => rfl
  | n :: p => by
    funext i
    rw [List.cons_append, nxt_cons, nxt_cons, nxt_app t s p]
theorem nxt_low (h : ∀ n ∈ ns, n.v ≤ i) : nxt t ns i = t i := by
  unfold nxt
  rw [List.find?_eq_none.2 (fun n hn => by have := h n hn; simp; omega)]
/-- What a level's next one is. -/
theorem nxt_cases (ns : List Nd) (i : Nat) : (nxt noT ns i = none ∧ ∀ n ∈ ns, n.v ≤ i) ∨ ∃ p m s, ns = p ++ m :: s ∧ nxt noT ns i = some m.a ∧ i < m.v ∧ ∀ n ∈ p, n.v ≤ i := by
  induction ns with
  | nil => exact .inl ⟨rfl, by simp⟩
  | cons n ns ih =>
    by_cases h : i < n.v
    · exact .inr ⟨[], n, ns, rfl, by rw [nxt_cons, if_pos h], h, by simp⟩
    · rcases ih with ⟨h1, h2⟩ | ⟨p, m, s, rfl, h2, h3, h4⟩
      · exact .inl ⟨by rw [nxt_cons, if_neg h, h1], fun x hx => (List.mem_cons.1 hx).elim (fun e => by subst e; omega) (h2 x)⟩
      · exact .inr ⟨n :: p, m, s, rfl, by rw [nxt_cons, if_neg h]; exact h2, h3, fun x hx => (List.mem_cons.1 hx).elim (fun e => by subst e; omega) (h4 x)⟩
theorem rowN_congr {f g : Nat → Option Nat} (hfg : ∀ j, j < h → j < v → f j = g j) : rowN f h v = rowN g h v := by
  unfold rowN
  congr 1
  apply List.map_congr_left
  intro j hj
  have hj := List.mem_range.1 hj
  by_cases hv : j < v
  · rw [if_pos hv, if_pos hv, hfg j hj hv]
  · rw [if_neg hv, if_neg hv]
theorem rowN_get (f : Nat → Option Nat) (hj : j < h) : (rowN f h v)[j]? = some (if j < v then ptrN (f j) else ptrN none) := by
  unfold rowN; simp [hj]
theorem rowN_size (f : Nat → Option Nat) (h v : Nat) : (rowN f h v).size = h := by unfold rowN; simp
theorem nodes_app (t : Nat → Option Nat) (s : List Nd) : ∀ p : List Nd, NodesG t (p ++ s) = NodesG (nxt t s) p * NodesG t s
  | [] => (emp_star _).symm
  | n :: p => by
    show NodeP n (nxt t (p ++ s)) * NodesG t (p ++ s) = NodeP n (nxt (nxt t s) p) * NodesG (nxt t s) p * NodesG t s
    rw [nxt_app, nodes_app t s p, star_assoc]
/-- What lies on low levels alone does not see what stands behind on high ones. -/
theorem nodes_low : ∀ {ns : List Nd}, (∀ n ∈ ns, n.v ≤ i) → (∀ j, j < i → t j = t' j) → NodesG t ns = NodesG t' ns
  | [], _, _ => rfl
  | n :: ns, h, k => by
    show NodeP n (nxt t ns) * NodesG t ns = NodeP n (nxt t' ns) * NodesG t' ns
    rw [nodes_low (fun x hx => h x (List.mem_cons_of_mem _ hx)) k]
    have hn := h n List.mem_cons_self
    have e : rowN (nxt t ns) n.h n.v = rowN (nxt t' ns) n.h n.v := rowN_congr fun j hj hv => by
      unfold nxt
      cases ns.find? (fun n => decide (j < n.v)) with
      | some _ => rfl
      | none => exact k j (by omega)
    unfold NodeP
    rw [e]
end
/-- What is said of a table's nodes. -/
structure NOk (ns : List Nd) : Prop where
  full : ∀ n ∈ ns, n.v = n.h ∧ 1 ≤ n.h ∧ n.h ≤ 8
  sort : ns.Pairwise fun a b => LTE a.e.ent b.e.ent
def byt (l : List Ent) : Nat := l.foldr (fun e s => e.key.length + e.value.length + s) 0
def slcs (ns : List Nd) : List Slc := ns.flatMap fun n => [n.e.key, n.e.value]
/-- The table: its block, the block of its first links, its nodes, and what its counts say. -/
def SkipC (b hr : Nat) (ns : List Nd) (cnt by' : Int) : SP :=
  Pt b 75 #[.slice (some ⟨hr, 0, none⟩) 8 8, .int .i64 cnt, .int .i64 by'] * (Pt hr 79 (rowN (nxt noT ns) 8 8) * (NodesG noT ns * RoL (slcs ns)))

/-- What is read of a table, at a world. -/
structure View (w : World) (b hr : Nat) (ns : List Nd) : Prop where
  head : w.cell? ⟨b, 0, none⟩ = some (.slice (some ⟨hr, 0, none⟩) 8 8)
  links : ∀ i, i < 8 → w.cell? ⟨hr, i, none⟩ = some (ptrN (nxt noT ns i))
  node : ∀ p n s, ns = p ++ n :: s → w.cell? ⟨n.a, 0, none⟩ = some (.slice (some ⟨n.r, 0, none⟩) n.h n.h) ∧ w.cell? ⟨n.a, 1, none⟩ = some (slv' n.e.key) ∧ w.cell? ⟨n.a, 2, none⟩ = some (slv' n.e.value) ∧ w.cell? ⟨n.a, 3, none⟩ = some (.int .i64 n.e.seq) ∧ w.cell? ⟨n.a, 4, none⟩ = some (.bool n.e.dead)
    ∧ (∀ i, i < n.h → w.cell? ⟨n.r, i, none⟩ = some (ptrN (nxt noT s i))) ∧ EnR w n.e
  nodup : (ns.map Nd.a).Nodup
section
variable {w0 w w' : World} {F : SP} {b hr : Nat} {ns p s : List Nd} {n : Nd} {c y : Int} {t : Nat → Option Nat}
theorem View.new (h : View w b hr ns) (k : Chg No w w') : View w' b hr ns :=
  ⟨k.cell h.head id, fun i hi => k.cell (h.links i hi) id, fun p n s e => by
    obtain ⟨h1, h2, h3, h4, h5, h6, h7⟩ := h.node p n s e
    exact ⟨k.cell h1 id, k.cell h2 id, k.cell h3 id, k.cell h4 id, k.cell h5 id, fun i hi => k.cell (h6 i hi) id, h7.new k⟩, h.nodup⟩
/-- One node, apart from the others. -/
theorem node_out (t : Nat → Option Nat) (p : List Nd) (n : Nd) (s : List Nd) (F : SP) : NodesG t (p ++ n :: s) * F = Pt n.a 81 (nodeC n) * (Pt n.r 79 (rowN (nxt t s) n.h n.v) * (NodesG (nxt t (n :: s)) p * (NodesG t s * F))) := by
  rw [nodes_app]
  show NodesG (nxt t (n :: s)) p * (Pt n.a _ (nodeC n) * Pt n.r _ (rowN (nxt t s) n.h n.v) * NodesG t s) * F = _
  ac_rfl
theorem nodes_dup (h : Sat w0 (NodesG t ns * F) w) : (ns.map Nd.a).Nodup := by
  induction ns generalizing F with
  | nil => simp
  | cons n ns ih =>
    have h1 : Sat w0 (Pt n.a 81 (nodeC n) * (NodesG t ns * (Pt n.r 79 (rowN (nxt t ns) n.h n.v) * F))) w := h.of (by
      show Pt n.a _ (nodeC n) * Pt n.r _ (rowN (nxt t ns) n.h n.v) * NodesG t ns * F = _
      ac_rfl)
    rw [List.map_cons, List.nodup_cons]
    refine ⟨fun hm => ?_, ih h1.right⟩
    obtain ⟨m, hm, e⟩ := List.mem_map.1 hm
    obtain ⟨p, s, rfl⟩ := List.append_of_mem hm
    have h2 : Sat w0 (Ow n.a _ * (Ow m.a _ * _)) w := h1.of (by rw [node_out]; rfl)
    exact h2.ne e.symm
theorem Sat.view (h : Sat w0 (SkipC b hr ns c y * F) w) (hok : NOk ns) : View w b hr ns := by
  have h1 : Sat w0 (Pt b 75 #[.slice (some ⟨hr, 0, none⟩) 8 8, .int .i64 c, .int .i64 y] * (Pt hr 79 (rowN (nxt noT ns) 8 8) * (NodesG noT ns * (RoL (slcs ns) * F)))) w := h.of (by unfold SkipC; ac_rfl)
  refine ⟨h1.cell 0, fun i hi => ?_, fun p n s e => ?_, nodes_dup (h1.up3)⟩
  · rw [h1.up2.cell i, rowN_get _ hi, if_pos hi]
  · subst e
    have h2 := h1.up3.of (node_out noT p n s _)
    obtain ⟨e1, e2, e3⟩ := hok.full n (by simp)
    refine ⟨h2.cell 0, h2.cell 1, h2.cell 2, h2.cell 3, h2.cell 4, fun i hi => ?_, ?_⟩
    · rw [h2.up2.cell i, rowN_get _ hi, if_pos (by omega)]
    · have h3 := h1.up4
      exact ⟨h3.rol (r := n.e.key) (by unfold slcs; simp), h3.rol (r := n.e.value) (by unfold slcs; simp)⟩
end
end Go.Proofs.Ytlcifkkgekpicaa
