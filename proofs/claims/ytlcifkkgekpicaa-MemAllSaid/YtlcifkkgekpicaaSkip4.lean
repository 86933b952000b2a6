/- A node is linked, level by level. -/
import Derived.Test.YtlcifkkgekpicaaSkip3
namespace Go.Proofs.Ytlcifkkgekpicaa
open Go.RowKit
set_option linter.unusedVariables false

theorem rowN_set {f g : Nat → Option Nat} {h v i : Nat} {u : Value} (hi : i < v) (hfg : ∀ j, j < h → j ≠ i → j < v → f j = g j) (hu : ptrN (g i) = u) : (rowN f h v).setIfInBounds i u = rowN g h v := by
  apply Array.ext'
  apply List.ext_getElem?
  intro j
  unfold rowN
  simp only [List.setIfInBounds_toArray, List.getElem?_set, List.getElem?_map, List.length_map, List.length_range]
  by_cases hj : j < h
  · rw [List.getElem?_range hj]
    by_cases e : i = j
    · subst e; simp [hj, hi, hu]
    · by_cases hv : j < v
      · simp [e, hv, hfg j hj (fun q => e q.symm) hv]
      · simp [e, hv]
  · simp [hj]; omega
theorem rowN_more {f : Nat → Option Nat} {h i : Nat} : (rowN f h i).setIfInBounds i (ptrN (f i)) = rowN f h (i + 1) := by
  apply Array.ext'
  apply List.ext_getElem?
  intro j
  unfold rowN
  simp only [List.setIfInBounds_toArray, List.getElem?_set, List.getElem?_map, List.length_map, List.length_range]
  by_cases hj : j < h
  · rw [List.getElem?_range hj]
    by_cases e : i = j
    · subst e; simp [hj]
    · have : (j < i + 1) = (j < i) := by apply propext; omega
      simp [e, this]
  · simp [hj]; omega
theorem last_split (i : Nat) : ∀ (p : List Nd) (b : Nat), ((∀ n ∈ p, n.v ≤ i) ∧ lastAt b p i = b) ∨ ∃ p1 m p2, p = p1 ++ m :: p2 ∧ i < m.v ∧ (∀ n ∈ p2, n.v ≤ i) ∧ lastAt b p i = m.a
  | [], b => .inl ⟨by simp, rfl⟩
  | n :: p, b => by
    by_cases h : i < n.v
    · have e : lastAt b (n :: p) i = lastAt n.a p i := by show (if i < n.v then _ else _) = _; rw [if_pos h]
      rcases last_split i p n.a with ⟨h1, h2⟩ | ⟨p1, m, p2, h1, h2, h3, h4⟩
      · exact .inr ⟨[], n, p, rfl, h, h1, by rw [e, h2]⟩
      · exact .inr ⟨n :: p1, m, p2, by rw [h1]; rfl, h2, h3, by rw [e, h4]⟩
    · have e : lastAt b (n :: p) i = lastAt b p i := by show (if i < n.v then _ else _) = _; rw [if_neg h]
      rcases last_split i p b with ⟨h1, h2⟩ | ⟨p1, m, p2, h1, h2, h3, h4⟩
      · exact .inl ⟨fun x hx => (List.mem_cons.1 hx).elim (fun q => by subst q; omega) (h1 x), by rw [e, h2]⟩
      · exact .inr ⟨n :: p1, m, p2, by rw [h1]; rfl, h2, h3, by rw [e, h4]⟩
def Nd.lev (n : Nd) (i : Nat) : Nd := { n with v := i }
section
variable {w0 w : World} {F : SP} {b hr i : Nat} {pre beh : List Nd} {N : Nd} {c y : Int}
theorem tail_next (N : Nd) (beh : List Nd) (i j : Nat) (h : j ≠ i) : nxt noT (N.lev i :: beh) j = nxt noT (N.lev (i + 1) :: beh) j := by
  rw [nxt_cons, nxt_cons]
  show (if j < i then some N.a else _) = (if j < i + 1 then some N.a else _)
  by_cases hj : j < i
  · rw [if_pos hj, if_pos (by omega)]
  · rw [if_neg hj, if_neg (by omega)]
theorem nxt_ext {t t' : Nat → Option Nat} {i : Nat} (h : t i = t' i) : ∀ ns : List Nd, nxt t ns i = nxt t' ns i := fun ns => by
  unfold nxt; cases ns.find? (fun n => decide (i < n.v)) with | some _ => rfl | none => exact h
theorem slcs_lev (pre beh : List Nd) (N : Nd) (i j : Nat) : slcs (pre ++ N.lev i :: beh) = slcs (pre ++ N.lev j :: beh) := by unfold slcs; simp [Nd.lev]
/-- The table, taken apart at the new node. -/
theorem skip_mid (b hr : Nat) (pre : List Nd) (n : Nd) (beh : List Nd) (c y : Int) (F : SP) : SkipC b hr (pre ++ n :: beh) c y * F =
    Pt n.a 81 (nodeC n) * (Pt n.r 79 (rowN (nxt noT beh) n.h n.v) * (NodesG (nxt noT (n :: beh)) pre * (Pt hr 79 (rowN (nxt (nxt noT (n :: beh)) pre) 8 8) *
      (Pt b 75 #[.slice (some ⟨hr, 0, none⟩) 8 8, .int .i64 c, .int .i64 y] * (NodesG noT beh * (RoL (slcs (pre ++ n :: beh)) * F)))))) := by
  unfold SkipC
  rw [nxt_app, nodes_app]
  show Pt b _ _ * (Pt hr _ _ * (NodesG (nxt noT (n :: beh)) pre * (Pt n.a _ (nodeC n) * Pt n.r _ (rowN (nxt noT beh) n.h n.v) * NodesG noT beh) * RoL _)) * F = _
  ac_rfl
/-- Where the last one ahead has its link of this level. -/
structure Spot (w0 w : World) (b hr : Nat) (pre beh : List Nd) (N : Nd) (i : Nat) (c y : Int) (F : SP) (A R h : Nat) : Prop where
  last : lastAt b pre i = A
  hi : i < h
  head : w.cell? ⟨A, 0, none⟩ = some (.slice (some ⟨R, 0, none⟩) h h)
  link : w.cell? ⟨R, i, none⟩ = some (ptrN (nxt noT beh i))
  free : w.frozen? ⟨R, i, none⟩ = false
  nhead : w.cell? ⟨N.a, 0, none⟩ = some (.slice (some ⟨N.r, 0, none⟩) N.h N.h)
  nlink : w.cell? ⟨N.r, i, none⟩ = some (ptrN none)
  nfree : w.frozen? ⟨N.r, i, none⟩ = false
  apart : R ≠ N.r
  on : Sat w0 (SkipC b hr (pre ++ N.lev (i + 1) :: beh) c y * F) ((w.setCell ⟨N.r, i, none⟩ (ptrN (nxt noT beh i))).setCell ⟨R, i, none⟩ (.pointer (some ⟨N.a, 0, none⟩)))
theorem Sat.spot (h : Sat w0 (SkipC b hr (pre ++ N.lev i :: beh) c y * F) w) (hN : i < N.h) (h8 : N.h ≤ 8) (hp : ∀ n ∈ pre, n.v = n.h) : ∃ A R H, Spot w0 w b hr pre beh N i c y F A R H := by
  have h1 := h.of (skip_mid b hr pre (N.lev i) beh c y F)
  have n0 := h1.cell 0
  have n1 : w.cell? ⟨N.r, i, none⟩ = _ := h1.up2.cell i
  rw [rowN_get _ (show i < (N.lev i).h from hN), if_neg (by show ¬ i < i; omega)] at n1
  have n2 : w.frozen? ⟨N.r, i, none⟩ = false := h1.up2.frozen i
  have h2 := h1.up2.set i (ptrN (nxt noT beh i))
  rw [show rowN (nxt noT beh) (N.lev i).h (N.lev i).v = rowN (nxt noT beh) N.h i from rfl, rowN_more] at h2
  have hlow : ∀ j, j < i → nxt noT (N.lev i :: beh) j = nxt noT (N.lev (i + 1) :: beh) j := fun j hj => tail_next N beh i j (by omega)
  have hself : nxt noT (N.lev (i + 1) :: beh) i = some N.a := by rw [nxt_cons, if_pos (by show i < i + 1; omega)]; rfl
  have hold : nxt noT (N.lev i :: beh) i = nxt noT beh i := by rw [nxt_cons, if_neg (by show ¬ i < i; omega)]
  rcases last_split i pre b with ⟨hl, ha⟩ | ⟨p1, m, p2, rfl, hm, hl, ha⟩
  · have g1 := h1.up5.cell 0
    have g2 := h1.up4.cell i
    have g3 := h1.up4.frozen i
    have hne : hr ≠ N.r := by have := h1.up2.up4; exact (Sat.ne this)
    rw [rowN_get _ (by omega), if_pos (by omega), nxt_low hl, hold] at g2
    refine ⟨b, hr, 8, ha, by omega, g1, g2, g3, n0, n1, n2, hne, ?_⟩
    have h3 := h2.up4.set i (.pointer (some ⟨N.a, 0, none⟩))
    rw [rowN_set (g := nxt (nxt noT (N.lev (i + 1) :: beh)) pre) (by omega) (fun j _ hj _ => nxt_ext (tail_next N beh i j hj) pre) (by rw [nxt_low hl, hself]; rfl), nodes_low hl hlow, slcs_lev pre beh N i (i + 1)] at h3
    refine Sat.of ?_ (skip_mid b hr pre (N.lev (i + 1)) beh c y F).symm
    exact h3.of (by
      show Pt hr _ _ * (Pt N.r _ (rowN (nxt noT beh) N.h (i + 1)) * (Pt N.a _ (nodeC N) * (NodesG _ pre * (Pt b _ _ * (NodesG noT beh * (RoL _ * F)))))) = Pt N.a _ (nodeC N) * (Pt N.r _ (rowN (nxt noT beh) N.h (i + 1)) * (NodesG _ pre * (Pt hr _ _ * (Pt b _ _ * (NodesG noT beh * (RoL _ * F))))))
      ac_rfl)
  · have h3 := h1.up3.of (node_out _ p1 m p2 _)
    have g1 := h3.cell 0
    have g2 := h3.up2.cell i
    have g3 := h3.up2.frozen i
    have hmv := hp m (by simp)
    have hne : m.r ≠ N.r := fun e => (Sat.ne (h3.right.up5)) e.symm
    rw [rowN_get _ (by omega), if_pos hm, nxt_low hl, hold] at g2
    refine ⟨m.a, m.r, m.h, ha, by omega, g1, g2, g3, n0, n1, n2, hne, ?_⟩
    have h4 := (h2.up3.of (node_out _ p1 m p2 _)).up2.set i (.pointer (some ⟨N.a, 0, none⟩))
    rw [rowN_set (g := nxt (nxt noT (N.lev (i + 1) :: beh)) p2) hm (fun j _ hj _ => nxt_ext (tail_next N beh i j hj) p2) (by rw [nxt_low hl, hself]; rfl), nodes_low hl hlow] at h4
    have e1 : nxt (nxt noT (N.lev i :: beh)) (m :: p2) = nxt (nxt noT (N.lev (i + 1) :: beh)) (m :: p2) := by
      funext j
      by_cases hj : j = i
      · subst hj; rw [nxt_cons, nxt_cons, if_pos hm, if_pos hm]
      · exact nxt_ext (tail_next N beh i j hj) _
    have e2 : nxt (nxt noT (N.lev i :: beh)) (p1 ++ m :: p2) = nxt (nxt noT (N.lev (i + 1) :: beh)) (p1 ++ m :: p2) := by rw [nxt_app, nxt_app, e1]
    rw [e1, e2, slcs_lev (p1 ++ m :: p2) beh N i (i + 1)] at h4
    refine Sat.of ?_ (skip_mid b hr (p1 ++ m :: p2) (N.lev (i + 1)) beh c y F).symm
    have e3 := node_out (nxt noT (N.lev (i + 1) :: beh)) p1 m p2 (Pt N.r 79 (rowN (nxt noT beh) N.h (i + 1)) * (Pt N.a 81 (nodeC N) * (Pt hr 79 (rowN (nxt (nxt noT (N.lev (i + 1) :: beh)) (p1 ++ m :: p2)) 8 8) *
      (Pt b 75 #[.slice (some ⟨hr, 0, none⟩) 8 8, .int .i64 c, .int .i64 y] * (NodesG noT beh * (RoL (slcs (p1 ++ m :: p2 ++ N.lev (i + 1) :: beh)) * F))))))
    exact (h4.up2.of e3.symm).of (by
      show NodesG _ (p1 ++ m :: p2) * (Pt N.r _ (rowN (nxt noT beh) N.h (i + 1)) * (Pt N.a _ (nodeC N) * (Pt hr _ _ * (Pt b _ _ * (NodesG noT beh * (RoL _ * F)))))) = Pt N.a _ (nodeC N) * (Pt N.r _ (rowN (nxt noT beh) N.h (i + 1)) * (NodesG _ (p1 ++ m :: p2) * (Pt hr _ _ * (Pt b _ _ * (NodesG noT beh * (RoL _ * F))))))
      ac_rfl)
end
end Go.Proofs.Ytlcifkkgekpicaa
