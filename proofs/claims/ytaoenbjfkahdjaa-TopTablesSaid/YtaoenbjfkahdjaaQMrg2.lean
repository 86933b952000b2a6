/- merge.Thin. (Written by gen_mrg2.py.) -/
import Derived.Test.YtaoenbjfkahdjaaQ04
import Derived.Test.YtaoenbjfkahdjaaQMrg1
import Derived.Test.YtaoenbjfkahdjaaQRowCut
namespace Go.Proofs.Ytaoenbjfkahdjaa
open Go.RowKit
set_option linter.unusedVariables false
set_option maxRecDepth 100000

/-- What is marked of a row. -/
def selE {α : Type} : List Bool → List α → List α
  | true :: bs, x :: l => x :: selE bs l
  | false :: bs, x :: l => selE bs l
  | _, _ => []
theorem sel_map {α β : Type} (f : α → β) : ∀ (bs : List Bool) (l : List α), (selE bs l).map f = selE bs (l.map f)
  | [], l => by cases l <;> rfl
  | true :: bs, [] => rfl
  | false :: bs, [] => rfl
  | true :: bs, x :: l => by show f x :: (selE bs l).map f = f x :: selE bs (l.map f); rw [sel_map f bs l]
  | false :: bs, x :: l => sel_map f bs l
theorem sel_len {α : Type} : ∀ (bs : List Bool) (l : List α), (selE bs l).length ≤ l.length
  | [], l => by cases l <;> exact Nat.zero_le _
  | true :: bs, [] => Nat.zero_le _
  | false :: bs, [] => Nat.zero_le _
  | true :: bs, x :: l => Nat.succ_le_succ (sel_len bs l)
  | false :: bs, x :: l => Nat.le_succ_of_le (sel_len bs l)
theorem sel_snoc {α : Type} : ∀ (bs : List Bool) (l : List α) (b : Bool) (x : α), bs.length = l.length → selE (bs ++ [b]) (l ++ [x]) = selE bs l ++ (if b = true then [x] else [])
  | [], [], true, x, _ => rfl
  | [], [], false, x, _ => rfl
  | [], y :: l, b, x, h => by cases h
  | a :: bs, [], b, x, h => by cases h
  | true :: bs, y :: l, b, x, h => by show y :: selE (bs ++ [b]) (l ++ [x]) = y :: (selE bs l ++ _); rw [sel_snoc bs l b x (by simpa using h)]
  | false :: bs, y :: l, b, x, h => sel_snoc bs l b x (by simpa using h)
theorem sel_kept (snaps : List Int) : ∀ (g : List Ent) (q : Option Int) (bs : List Bool), bs.length = g.length → (∀ i (h : i < g.length) (h' : i < bs.length), bs[i] = seenX snaps (if hi : i = 0 then q else some (g[i - 1]'(by omega)).seq) g[i]) → selE bs g = keptX snaps q g
  | [], q, [], _, _ => rfl
  | [], q, b :: bs, h, _ => by cases h
  | x :: g, q, [], h, _ => by cases h
  | x :: g, q, b :: bs, h, hb => by
    have h0 := hb 0 (by simp) (by simp)
    simp only [List.getElem_cons_zero, dif_pos] at h0
    have ih := sel_kept snaps g (some x.seq) bs (by simpa using h) (fun i hi hi' => by
      have h1 := hb (i + 1) (by simp; omega) (by simp; omega)
      simp only [List.getElem_cons_succ] at h1
      rw [h1]
      congr 1
      rw [dif_neg (by omega)]
      by_cases hz : i = 0
      · subst hz; rw [dif_pos rfl]; rfl
      · rw [dif_neg hz]
        obtain ⟨j, rfl⟩ : ∃ j, i = j + 1 := ⟨i - 1, by omega⟩
        rfl)
    show selE (b :: bs) (x :: g) = if seenX snaps q x = true then x :: keptX snaps (some x.seq) g else keptX snaps (some x.seq) g
    rw [← h0, ← ih]
    cases b <;> rfl
/-- What Thin looks at. -/
def descS (es : List En) : Prop := ∀ (a b : Nat) (ha : a < es.length) (hb : b < es.length), a < b → es[b].seq < es[a].seq
theorem mrk_at (es : List En) : ∀ (snaps : List Int) (b : List Bool) (i : Nat) (h : i < b.length) (h' : i < (snaps.foldl (fun b s => b.set (fstS s es) true) b).length), (snaps.foldl (fun b s => b.set (fstS s es) true) b)[i] = (b[i] || snaps.any fun s => decide (fstS s es = i))
  | [], b, i, h, h' => by simp
  | s :: snaps, b, i, h, h' => by
    simp only [List.foldl_cons]
    rw [mrk_at es snaps _ i (by rw [List.length_set]; exact h) (by simpa using h'), List.getElem_set, List.any_cons, ← Bool.or_assoc]
    congr 1
    by_cases hs : fstS s es = i
    · rw [if_pos hs, decide_eq_true hs, Bool.or_true]
    · rw [if_neg hs, decide_eq_false hs, Bool.or_false]
theorem fst_iff {es : List En} (hd : descS es) {s : Int} {i : Nat} (hi : i + 1 < es.length) : fstS s es = i + 1 ↔ es[i + 1].seq ≤ s ∧ s < es[i].seq := by
  constructor
  · intro h
    have h1 : fstS s es < es.length := by omega
    have h2 : decide (es[i + 1].seq ≤ s) = true := by
      have h5 := List.findIdx_getElem (xs := es) (p := fun e : En => decide (e.seq ≤ s)) (w := show List.findIdx (fun e : En => decide (e.seq ≤ s)) es < es.length from h1)
      have e : List.findIdx (fun e : En => decide (e.seq ≤ s)) es = i + 1 := h
      simp only [e] at h5
      exact h5
    have h3 := List.not_of_lt_findIdx (p := fun e => decide (e.seq ≤ s)) (xs := es) (i := i) (by show i < fstS s es; omega)
    exact ⟨of_decide_eq_true h2, by simpa using h3⟩
  · rintro ⟨h1, h2⟩
    refine fstS_is (by omega) (fun m hm hmi => ?_) (fun _ => h1)
    rcases Nat.lt_or_ge m i with h3 | h3
    · have := hd m i hm (by omega) h3; omega
    · obtain rfl : m = i := by omega
      omega
theorem mrk_kept {es : List En} (hd : descS es) (snaps : List Int) : selE (mrkTo es snaps) (es.map En.ent) = keptX snaps none (es.map En.ent) := by
  refine sel_kept snaps _ none _ (by rw [mrkTo_len, List.length_map]) (fun i h h' => ?_)
  have hl : i < es.length := by simpa using h
  have e0 : (mrkTo es snaps)[i] = _ := mrk_at es snaps ((List.replicate es.length false).set 0 true) i (by simpa using hl) h'
  rw [e0, List.getElem_set]
  cases i with
  | zero => rw [if_pos rfl, dif_pos rfl]; rfl
  | succ i =>
    rw [if_neg (by omega), List.getElem_replicate, dif_neg (by omega), Bool.false_or]
    show _ = snaps.any fun s => decide (((es.map En.ent)[i + 1]).seq ≤ s) && decide (s < ((es.map En.ent)[i + 1 - 1]'(by simp; omega)).seq)
    congr 1
    funext s
    have h1 := fst_iff hd (s := s) hl
    simp only [List.getElem_map]
    rw [Bool.eq_iff_iff, Bool.and_eq_true, decide_eq_true_iff, decide_eq_true_iff, decide_eq_true_iff, h1]
    rfl
/-- A row of entries, cut ahead. -/
theorem ents_drop {w : World} {A : Option Addr} {c n : Nat} {es : List En} (h : RdV w A (es.flatMap enV)) (hn : n ≤ es.length) (hc : es.length ≤ c) : RdV w (if c = n then A else A.map (·.add (n * 4))) ((es.drop n).flatMap enV) := by
  have h1 := RdV.drop h (k := n * 4) (cap := c * 4) (by rw [flatK_len enV_len]; omega) (by rw [flatK_len enV_len]; omega)
  have h2 : (es.flatMap enV).drop (n * 4) = (es.drop n).flatMap enV := by
    clear h h1 hc
    induction n generalizing es with
    | zero => simp
    | succ n ih =>
      cases es with
      | nil => simp
      | cons e es =>
        rw [List.flatMap_cons, List.drop_succ_cons, show (n + 1) * 4 = (enV e).length + n * 4 by rw [enV_len]; omega, ← List.drop_drop, List.drop_left]
        exact ih (by simpa using hn)
  rw [h2] at h1
  by_cases e : c = n
  · rw [if_pos e]; rw [if_pos (by omega)] at h1; exact h1
  · rw [if_neg e]; rw [if_neg (by omega)] at h1; exact h1
theorem ents_take {w : World} {A : Option Addr} {n : Nat} {es : List En} (h : RdV w A (es.flatMap enV)) (hn : n ≤ es.length) : RdV w A ((es.take n).flatMap enV) := by
  have h1 := RdV.take h (n * 4)
  have h2 : (es.flatMap enV).take (n * 4) = (es.take n).flatMap enV := by
    clear h h1
    induction n generalizing es with
    | zero => simp
    | succ n ih =>
      cases es with
      | nil => simp
      | cons e es =>
        rw [List.flatMap_cons, List.take_succ_cons, List.flatMap_cons, show (n + 1) * 4 = (enV e).length + n * 4 by rw [enV_len]; omega, List.take_length_add_append]
        rw [ih (by simpa using hn)]
  rwa [h2] at h1
end Go.Proofs.Ytaoenbjfkahdjaa
