/- Thin, plainly: of each key the entries that somebody sees; and that what is seen is still told. -/
import Derived.Test.YtaoenbjfkahdjaaQViw
namespace Go.Proofs.Ytaoenbjfkahdjaa
open Go.RowKit
set_option linter.unusedVariables false
set_option maxRecDepth 100000

/-- Is an entry seen, that stands behind one with the number q (none: it is the first of its key)? -/
def seenX (snaps : List Int) (q : Option Int) (x : Ent) : Bool := match q with | none => true | some q => snaps.any fun s => decide (x.seq ≤ s) && decide (s < q)
def keptX (snaps : List Int) : Option Int → List Ent → List Ent
  | _, [] => []
  | q, x :: g => if seenX snaps q x = true then x :: keptX snaps (some x.seq) g else keptX snaps (some x.seq) g
/-- Without the dead ones at the end. -/
def trimD (X : List Ent) : List Ent := (X.reverse.dropWhile (fun e => e.dead)).reverse
def keptB (b : Bool) (snaps : List Int) (g : List Ent) : List Ent := if b = true then trimD (keptX snaps none g) else keptX snaps none g
def sameK (e x : Ent) : Bool := decide (x.key = e.key)
theorem dropW_le {α : Type} (f : α → Bool) : ∀ L : List α, (L.dropWhile f).length ≤ L.length
  | [] => Nat.le_refl _
  | x :: L => by
    rw [List.dropWhile_cons]
    split
    · exact Nat.le_succ_of_le (dropW_le f L)
    · exact Nat.le_refl _
def thinE (b : Bool) (snaps : List Int) : List Ent → List Ent
  | [] => []
  | e :: L => keptB b snaps (e :: L.takeWhile (sameK e)) ++ thinE b snaps (L.dropWhile (sameK e))
termination_by L => L.length
decreasing_by exact Nat.lt_succ_of_le (dropW_le _ _)
theorem thin_nil (b : Bool) (snaps : List Int) : thinE b snaps [] = [] := by rw [thinE]
theorem thin_cons (b : Bool) (snaps : List Int) (e : Ent) (L : List Ent) : thinE b snaps (e :: L) = keptB b snaps (e :: L.takeWhile (sameK e)) ++ thinE b snaps (L.dropWhile (sameK e)) := by rw [thinE]
theorem kept_sub (snaps : List Int) : ∀ (g : List Ent) (q : Option Int), (keptX snaps q g).Sublist g
  | [], q => List.Sublist.refl _
  | x :: g, q => by
    unfold keptX
    split
    · exact (kept_sub snaps g _).cons_cons _
    · exact (kept_sub snaps g _).cons _
theorem trim_sub (X : List Ent) : (trimD X).Sublist X := by
  unfold trimD
  have h := List.dropWhile_sublist (fun e : Ent => e.dead) (l := X.reverse)
  have h2 := h.reverse
  rwa [List.reverse_reverse] at h2
theorem keptB_sub (b : Bool) (snaps : List Int) (g : List Ent) : (keptB b snaps g).Sublist g := by
  unfold keptB
  split
  · exact (trim_sub _).trans (kept_sub snaps g none)
  · exact kept_sub snaps g none
theorem thin_sub (b : Bool) (snaps : List Int) : ∀ (n : Nat) (L : List Ent), L.length ≤ n → (thinE b snaps L).Sublist L
  | _, [], _ => by rw [thin_nil]; exact List.Sublist.refl _
  | 0, e :: L, h => by simp at h
  | n + 1, e :: L, h => by
    rw [thin_cons]
    have h1 := keptB_sub b snaps (e :: L.takeWhile (sameK e))
    have h2 := thin_sub b snaps n (L.dropWhile (sameK e)) (by have := dropW_le (sameK e) L; simp at h; omega)
    have h3 := List.Sublist.append h1 h2
    have h4 : e :: L.takeWhile (sameK e) ++ L.dropWhile (sameK e) = e :: L := by rw [List.cons_append, List.takeWhile_append_dropWhile]
    rwa [h4] at h3
theorem thin_in (b : Bool) (snaps : List Int) (L : List Ent) : (thinE b snaps L).Sublist L := thin_sub b snaps L.length L (Nat.le_refl _)
theorem thin_sorted {b : Bool} {snaps : List Int} {L : List Ent} (h : L.Pairwise LTE) : (thinE b snaps L).Pairwise LTE := h.sublist (thin_in b snaps L)
theorem trim_last {X : List Ent} {d : Ent} (h : d.dead = true) : trimD (X ++ [d]) = trimD X := by
  unfold trimD
  rw [List.reverse_append, List.reverse_singleton, List.singleton_append, List.dropWhile_cons, if_pos h]
theorem trim_stop {X : List Ent} {d : Ent} (h : d.dead = false) : trimD (X ++ [d]) = X ++ [d] := by
  unfold trimD
  rw [List.reverse_append, List.reverse_singleton, List.singleton_append, List.dropWhile_cons, if_neg (by rw [h]; simp), List.reverse_cons, List.reverse_reverse]
theorem trim_nil : trimD [] = [] := rfl
theorem al_snoc {X : List Ent} {d : Ent} (h : d.dead = true) (k : List UInt8) (s : Int) : alE k s (X ++ [d]) = alE k s X := by
  unfold alE lkE
  rw [List.find?_append]
  cases hx : X.find? (hitE k s) with
  | some e => rfl
  | none =>
    show ([d].find? (hitE k s)).bind livE = none
    rw [List.find?_cons]
    cases hitE k s d with
    | true => show livE d = none; unfold livE; rw [if_pos h]
    | false => rfl
theorem trim_al (k : List UInt8) (s : Int) : ∀ (n : Nat) (X : List Ent), X.length ≤ n → alE k s (trimD X) = alE k s X
  | n, X, h => by
    rcases List.eq_nil_or_concat X with rfl | ⟨Y, d, rfl⟩
    · rfl
    · rw [List.concat_eq_append] at h ⊢
      cases hd : d.dead with
      | false => rw [trim_stop hd]
      | true =>
        cases n with
        | zero => simp at h
        | succ n =>
          rw [trim_last hd, al_snoc hd]
          exact trim_al k s n Y (by rw [List.length_append] at h; simp at h; omega)
/-- A number that is asked for: a snapshot's, or one above all. -/
def asked (snaps : List Int) (s : Int) (L : List Ent) : Prop := s ∈ snaps ∨ ∀ x ∈ L, x.seq ≤ s
theorem kept_lk2 (snaps : List Int) (k : List UInt8) (s : Int) (hs : s ∈ snaps) : ∀ (g : List Ent) (q : Int), s < q → lkE k s (keptX snaps (some q) g) = lkE k s g ∨ ∃ x ∈ g, x.key ≠ k
  | [], q, _ => .inl rfl
  | x :: g, q, hq => by
    by_cases hk : x.key = k
    · unfold keptX
      by_cases hx : x.seq ≤ s
      · left
        have : seenX snaps (some q) x = true := List.any_eq_true.2 ⟨s, hs, by rw [decide_eq_true hx, decide_eq_true hq]; rfl⟩
        rw [if_pos this, lk_yes ⟨hk, hx⟩, lk_yes ⟨hk, hx⟩]
      · rcases kept_lk2 snaps k s hs g x.seq (by omega) with ih | ⟨y, hy, h⟩
        · left
          rw [lk_no (e := x) (fun h => hx h.2)]
          split
          · rw [lk_no (e := x) (fun h => hx h.2)]; exact ih
          · exact ih
        · exact .inr ⟨y, List.mem_cons_of_mem _ hy, h⟩
    · exact .inr ⟨x, List.mem_cons_self, hk⟩
theorem kept_lk {snaps : List Int} {k : List UInt8} {s : Int} {g : List Ent} (hs : asked snaps s g) (hg : ∀ x ∈ g, x.key = k) : lkE k s (keptX snaps none g) = lkE k s g := by
  cases g with
  | nil => rfl
  | cons x g =>
    have hk := hg x List.mem_cons_self
    have e : keptX snaps none (x :: g) = x :: keptX snaps (some x.seq) g := by
      show (if seenX snaps none x = true then x :: keptX snaps (some x.seq) g else keptX snaps (some x.seq) g) = _
      rw [if_pos (show seenX snaps none x = true from rfl)]
    rw [e]
    by_cases hx : x.seq ≤ s
    · rw [lk_yes ⟨hk, hx⟩, lk_yes ⟨hk, hx⟩]
    · rw [lk_no (fun h => hx h.2), lk_no (fun h => hx h.2)]
      rcases hs with hs | hs
      · rcases kept_lk2 snaps k s hs g x.seq (by omega) with h | ⟨y, hy, h⟩
        · exact h
        · exact absurd (hg y (List.mem_cons_of_mem _ hy)) h
      · exact absurd (hs x List.mem_cons_self) hx
/-- A key's entries, and what stands behind them. -/
theorem group_rest {e : Ent} {L : List Ent} (h : (e :: L).Pairwise LTE) : (∀ x ∈ e :: L.takeWhile (sameK e), x.key = e.key) ∧ (∀ x ∈ L.dropWhile (sameK e), x.key ≠ e.key) ∧ (L.dropWhile (sameK e)).Pairwise LTE ∧ (e :: L.takeWhile (sameK e)).Pairwise LTE := by
  obtain ⟨h1, h2⟩ := List.pairwise_cons.1 h
  refine ⟨fun x hx => ?_, fun x hx => ?_, h2.sublist (List.dropWhile_sublist _), h.sublist ((List.takeWhile_sublist _).cons_cons _)⟩
  · rcases List.mem_cons.1 hx with rfl | hx
    · rfl
    · exact of_decide_eq_true (takeW_mem (f := sameK e) hx)
  · cases hd : L.dropWhile (sameK e) with
    | nil => rw [hd] at hx; cases hx
    | cons y T =>
      have hy : sameK e y = false := by
        have := List.head_dropWhile_not (p := sameK e) (l := L) (by rw [hd]; simp)
        simp only [hd, List.head_cons] at this
        exact this
      have hye : y ∈ L := (List.dropWhile_sublist (sameK e)).mem (by rw [hd]; exact List.mem_cons_self)
      have hlt : Lib.compareBytes e.key y.key < 0 := by
        rcases lte_iff.1 (h1 y hye) with h3 | ⟨h3, _⟩
        · exact h3
        · exact absurd h3.symm (of_decide_eq_false hy)
      rw [hd] at hx
      have h4 := h2.sublist (List.dropWhile_sublist (sameK e))
      rw [hd] at h4
      rcases List.mem_cons.1 hx with rfl | hx
      · exact (kcb_ne hlt).symm
      · rcases lte_iff.1 ((List.pairwise_cons.1 h4).1 x hx) with h5 | ⟨h5, _⟩
        · exact (kcb_ne (cb_trans hlt h5)).symm
        · rw [← h5]; exact (kcb_ne hlt).symm
theorem thin_lk (snaps : List Int) (k : List UInt8) (s : Int) : ∀ (n : Nat) (L : List Ent), L.length ≤ n → L.Pairwise LTE → asked snaps s L → lkE k s (thinE false snaps L) = lkE k s L
  | _, [], _, _, _ => by rw [thin_nil]
  | 0, e :: L, h, _, _ => by simp at h
  | n + 1, e :: L, h, hp, hs => by
    obtain ⟨g1, g2, g3, g4⟩ := group_rest hp
    have h4 : e :: L = (e :: L.takeWhile (sameK e)) ++ L.dropWhile (sameK e) := by rw [List.cons_append, List.takeWhile_append_dropWhile]
    have hsg : asked snaps s (e :: L.takeWhile (sameK e)) := hs.imp id fun h x hx => h x (by rw [h4]; exact List.mem_append_left _ hx)
    have hsr : asked snaps s (L.dropWhile (sameK e)) := hs.imp id fun h x hx => h x (by rw [h4]; exact List.mem_append_right _ hx)
    have ih := thin_lk snaps k s n _ (by have := dropW_le (sameK e) L; simp at h; omega) g3 hsr
    rw [thin_cons]
    have hsub := (kept_sub snaps (e :: L.takeWhile (sameK e)) none)
    show lkE k s (keptX snaps none _ ++ _) = _
    by_cases hk : e.key = k
    · rw [lk_app_no2 (fun x hx => by rw [← hk]; exact g2 x ((thin_in false snaps _).mem hx)), kept_lk hsg (fun x hx => (g1 x hx).trans hk)]
      conv => rhs; rw [h4]
      rw [lk_app_no2 (fun x hx => by rw [← hk]; exact g2 x hx)]
    · rw [lk_app_no (fun x hx => by rw [g1 x (hsub.mem hx)]; exact hk), ih]
      conv => rhs; rw [h4]
      rw [lk_app_no (fun x hx => by rw [g1 x hx]; exact hk)]
theorem al_app_no {k : List UInt8} {s : Int} {A B : List Ent} (h : ∀ x ∈ A, x.key ≠ k) : alE k s (A ++ B) = alE k s B := by unfold alE; rw [lk_app_no h]
theorem al_app_no2 {k : List UInt8} {s : Int} {A B : List Ent} (h : ∀ x ∈ B, x.key ≠ k) : alE k s (A ++ B) = alE k s A := by unfold alE; rw [lk_app_no2 h]
theorem thin_al_ (b : Bool) (snaps : List Int) (k : List UInt8) (s : Int) : ∀ (n : Nat) (L : List Ent), L.length ≤ n → L.Pairwise LTE → asked snaps s L → alE k s (thinE b snaps L) = alE k s L
  | _, [], _, _, _ => by rw [thin_nil]
  | 0, e :: L, h, _, _ => by simp at h
  | n + 1, e :: L, h, hp, hs => by
    obtain ⟨g1, g2, g3, g4⟩ := group_rest hp
    have h4 : e :: L = (e :: L.takeWhile (sameK e)) ++ L.dropWhile (sameK e) := by rw [List.cons_append, List.takeWhile_append_dropWhile]
    have hsg : asked snaps s (e :: L.takeWhile (sameK e)) := hs.imp id fun h x hx => h x (by rw [h4]; exact List.mem_append_left _ hx)
    have hsr : asked snaps s (L.dropWhile (sameK e)) := hs.imp id fun h x hx => h x (by rw [h4]; exact List.mem_append_right _ hx)
    have ih := thin_al_ b snaps k s n _ (by have := dropW_le (sameK e) L; simp at h; omega) g3 hsr
    rw [thin_cons]
    have hsub := keptB_sub b snaps (e :: L.takeWhile (sameK e))
    by_cases hk : e.key = k
    · rw [al_app_no2 (fun x hx => by rw [← hk]; exact g2 x ((thin_in b snaps _).mem hx))]
      have h5 : alE k s (keptB b snaps (e :: L.takeWhile (sameK e))) = alE k s (e :: L.takeWhile (sameK e)) := by
        have h6 : alE k s (keptX snaps none (e :: L.takeWhile (sameK e))) = alE k s (e :: L.takeWhile (sameK e)) := by
          unfold alE
          rw [kept_lk hsg (fun x hx => (g1 x hx).trans hk)]
        unfold keptB
        split
        · rw [trim_al k s _ _ (Nat.le_refl _), h6]
        · exact h6
      rw [h5]
      conv => rhs; rw [h4]
      rw [al_app_no2 (fun x hx => by rw [← hk]; exact g2 x hx)]
    · rw [al_app_no (fun x hx => by rw [g1 x (hsub.mem hx)]; exact hk), ih]
      conv => rhs; rw [h4]
      rw [al_app_no (fun x hx => by rw [g1 x hx]; exact hk)]
/-- What somebody sees is told behind a Thin. -/
theorem thin_al {b : Bool} {snaps : List Int} {k : List UInt8} {s : Int} {L : List Ent} (h : L.Pairwise LTE) (hs : asked snaps s L) : alE k s (thinE b snaps L) = alE k s L := thin_al_ b snaps k s _ L (Nat.le_refl _) h hs
/-- With the dead ones at the ends left out, and nobody who looks back, there are none that are dead and of each key one. -/
theorem kept_none (x : Ent) : ∀ (g : List Ent) (q : Int), keptX [] (some q) g = []
  | [], _ => rfl
  | y :: g, q => by unfold keptX; rw [if_neg (by simp [seenX])]; exact kept_none x g _
theorem thin_now (e : Ent) (L : List Ent) : keptB true [] (e :: L) = if e.dead = true then [] else [e] := by
  unfold keptB keptX
  rw [if_pos rfl, if_pos (show seenX [] none e = true from rfl), kept_none e]
  cases h : e.dead with
  | true => exact (trim_last (X := []) h).trans trim_nil
  | false => exact trim_stop (X := []) h
theorem thin_live : ∀ (n : Nat) (L : List Ent), L.length ≤ n → ∀ x ∈ thinE true [] L, x.dead = false
  | _, [], _ => by rw [thin_nil]; simp
  | 0, e :: L, h => by simp at h
  | n + 1, e :: L, h => fun x hx => by
    rw [thin_cons, thin_now] at hx
    rcases List.mem_append.1 hx with hx | hx
    · cases hd : e.dead with
      | true => rw [hd] at hx; cases hx
      | false =>
        rw [hd] at hx
        have : x = e := by simpa using hx
        rw [this, hd]
    · exact thin_live n _ (by have := dropW_le (sameK e) L; simp at h; omega) x hx
theorem thin_keys : ∀ (n : Nat) (L : List Ent), L.length ≤ n → L.Pairwise LTE → (thinE true [] L).Pairwise fun a b => Lib.compareBytes a.key b.key < 0
  | _, [], _, _ => by rw [thin_nil]; exact List.Pairwise.nil
  | 0, e :: L, h, _ => by simp at h
  | n + 1, e :: L, h, hp => by
    obtain ⟨g1, g2, g3, g4⟩ := group_rest hp
    have ih := thin_keys n _ (by have := dropW_le (sameK e) L; simp at h; omega) g3
    rw [thin_cons, thin_now]
    split
    · exact ih
    · refine List.pairwise_cons.2 ⟨fun x hx => ?_, ih⟩
      have hx2 := (thin_in true [] _).mem hx
      have hxl := (List.dropWhile_sublist (sameK e)).mem hx2
      rcases lte_iff.1 ((List.pairwise_cons.1 hp).1 x hxl) with h5 | ⟨h5, _⟩
      · exact h5
      · exact absurd h5.symm (g2 x hx2)
/-- The pairs of what a Thin for now leaves are the view of now. -/
theorem thin_view {L : List Ent} {s : Int} (h : L.Pairwise LTE) (hs : ∀ x ∈ L, x.seq ≤ s) : (thinE true [] L).map pairE = viewE s L := by
  have hp : ((thinE true [] L).map pairE).Pairwise kLT := by rw [List.pairwise_map]; exact thin_keys _ L (Nat.le_refl _) h
  refine kmap_ext hp (view_sorted h) fun k => ?_
  rw [view_get h, ← thin_al (b := true) (snaps := []) h (.inr hs)]
  have hl := thin_live _ L (Nat.le_refl _)
  have hm : ∀ x ∈ thinE true [] L, x.seq ≤ s := fun x hx => hs x ((thin_in true [] L).mem hx)
  generalize thinE true [] L = K at *
  induction K with
  | nil => rfl
  | cons e K ih =>
    show (if e.key = k then some e.value else getK k (K.map pairE)) = _
    rw [List.map_cons, List.pairwise_cons] at hp
    have ih2 := ih hp.2 (fun x hx => hl x (List.mem_cons_of_mem _ hx)) (fun x hx => hm x (List.mem_cons_of_mem _ hx))
    by_cases hk : e.key = k
    · rw [if_pos hk, al_yes ⟨hk, hm e List.mem_cons_self⟩]
      unfold livE
      rw [if_neg (by rw [hl e List.mem_cons_self]; simp)]
    · rw [if_neg hk, al_no (fun h => hk h.1), ih2]
end Go.Proofs.Ytaoenbjfkahdjaa
