/- What a row of entries tells at a moment, and what a plain map tells: the plain laws. -/
import Derived.Test.YtaoenbjfkahdjaaQ03
namespace Go.Proofs.Ytaoenbjfkahdjaa
open Go.RowKit
set_option linter.unusedVariables false
set_option maxRecDepth 100000

theorem takeW_mem {α : Type} {f : α → Bool} : ∀ {L : List α} {x : α}, x ∈ L.takeWhile f → f x = true
  | [], _, h => by cases h
  | y :: L, x, h => by
    rw [List.takeWhile_cons] at h
    split at h
    · rename_i h1
      rcases List.mem_cons.1 h with rfl | h
      · exact h1
      · exact takeW_mem h
    · cases h
theorem takeW_all {α : Type} {f : α → Bool} : ∀ {L : List α}, (∀ x ∈ L, f x = true) → L.takeWhile f = L ∧ L.dropWhile f = []
  | [], _ => ⟨rfl, rfl⟩
  | y :: L, h => by
    obtain ⟨h1, h2⟩ := takeW_all (L := L) fun x hx => h x (List.mem_cons_of_mem _ hx)
    rw [List.takeWhile_cons, List.dropWhile_cons, h y List.mem_cons_self, h1]
    exact ⟨rfl, h2⟩
abbrev Kv := List UInt8 × List UInt8
def kLT (a b : Kv) : Prop := Lib.compareBytes a.1 b.1 < 0
/-- A map's value of a key. -/
def getK (k : List UInt8) : List Kv → Option (List UInt8)
  | [] => none
  | p :: M => if p.1 = k then some p.2 else getK k M
def hitE (k : List UInt8) (s : Int) (e : Ent) : Bool := decide (e.key = k) && decide (e.seq ≤ s)
/-- The newest entry of a key up to a number. -/
def lkE (k : List UInt8) (s : Int) (L : List Ent) : Option Ent := L.find? (hitE k s)
def livE (e : Ent) : Option (List UInt8) := if e.dead = true then none else some e.value
/-- The value that a row of entries tells of a key at a number. -/
def alE (k : List UInt8) (s : Int) (L : List Ent) : Option (List UInt8) := (lkE k s L).bind livE
/-- A scan: what is told of a row, a key being told last. -/
def scanE (s : Int) : Option (List UInt8) → List Ent → List Ent
  | _, [] => []
  | c, e :: L => if s < e.seq ∨ c = some e.key then scanE s c L else (if e.dead = true then scanE s (some e.key) L else e :: scanE s (some e.key) L)
def pairE (e : Ent) : Kv := (e.key, e.value)
def viewE (s : Int) (L : List Ent) : List Kv := (scanE s none L).map pairE
theorem hit_iff {k : List UInt8} {s : Int} {e : Ent} : hitE k s e = true ↔ e.key = k ∧ e.seq ≤ s := by unfold hitE; simp
theorem lk_nil (k : List UInt8) (s : Int) : lkE k s [] = none := rfl
theorem lk_yes {k : List UInt8} {s : Int} {e : Ent} {L : List Ent} (h : e.key = k ∧ e.seq ≤ s) : lkE k s (e :: L) = some e := by
  unfold lkE; rw [List.find?_cons, hit_iff.2 h]
theorem lk_no {k : List UInt8} {s : Int} {e : Ent} {L : List Ent} (h : ¬ (e.key = k ∧ e.seq ≤ s)) : lkE k s (e :: L) = lkE k s L := by
  unfold lkE; rw [List.find?_cons]
  have h2 : hitE k s e = false := by rw [Bool.eq_false_iff]; exact fun h3 => h (hit_iff.1 h3)
  rw [h2]
theorem lk_none {k : List UInt8} {s : Int} {L : List Ent} (h : ∀ x ∈ L, x.key ≠ k) : lkE k s L = none := by
  unfold lkE; rw [List.find?_eq_none]; exact fun x hx h2 => h x hx (hit_iff.1 h2).1
theorem lk_app_no {k : List UInt8} {s : Int} {A B : List Ent} (h : ∀ x ∈ A, x.key ≠ k) : lkE k s (A ++ B) = lkE k s B := by
  unfold lkE; rw [List.find?_append]
  have : A.find? (hitE k s) = none := by rw [List.find?_eq_none]; exact fun x hx h2 => h x hx (hit_iff.1 h2).1
  rw [this]; rfl
theorem lk_app_no2 {k : List UInt8} {s : Int} {A B : List Ent} (h : ∀ x ∈ B, x.key ≠ k) : lkE k s (A ++ B) = lkE k s A := by
  unfold lkE; rw [List.find?_append]
  have : B.find? (hitE k s) = none := by rw [List.find?_eq_none]; exact fun x hx h2 => h x hx (hit_iff.1 h2).1
  rw [this]; cases A.find? (hitE k s) <;> rfl
theorem lk_mem {k : List UInt8} {s : Int} {L : List Ent} {e : Ent} (h : lkE k s L = some e) : e ∈ L ∧ e.key = k ∧ e.seq ≤ s := by
  unfold lkE at h
  exact ⟨List.mem_of_find?_eq_some h, hit_iff.1 (List.find?_some h)⟩
theorem al_none {k : List UInt8} {s : Int} {L : List Ent} (h : ∀ x ∈ L, x.key ≠ k) : alE k s L = none := by unfold alE; rw [lk_none h]; rfl
theorem al_yes {k : List UInt8} {s : Int} {e : Ent} {L : List Ent} (h : e.key = k ∧ e.seq ≤ s) : alE k s (e :: L) = livE e := by unfold alE; rw [lk_yes h]; rfl
theorem al_no {k : List UInt8} {s : Int} {e : Ent} {L : List Ent} (h : ¬ (e.key = k ∧ e.seq ≤ s)) : alE k s (e :: L) = alE k s L := by unfold alE; rw [lk_no h]
theorem kcb_ne {a b : List UInt8} (h : Lib.compareBytes a b < 0) : a ≠ b := fun e => by subst e; rw [cb_refl] at h; omega
/-- Of two keys one stands ahead, or they are the same. -/
theorem kcb_tri (a b : List UInt8) : Lib.compareBytes a b < 0 ∨ a = b ∨ Lib.compareBytes b a < 0 := by
  rcases Int.lt_trichotomy (Lib.compareBytes a b) 0 with h | h | h
  · exact .inl h
  · exact .inr (.inl (cb_eq h))
  · exact .inr (.inr (by rw [cb_swap a b]; omega))
/-- A key that stands at or ahead of all that are in a row. -/
def kLe (k : List UInt8) (L : List Ent) : Prop := ∀ x ∈ L, k = x.key ∨ Lib.compareBytes k x.key < 0
theorem kLe_self {e : Ent} {L : List Ent} (h : (e :: L).Pairwise LTE) : kLe e.key L := fun x hx => by
  rcases lte_iff.1 ((List.pairwise_cons.1 h).1 x hx) with h2 | ⟨h2, _⟩
  · exact .inr h2
  · exact .inl h2
theorem scan_sub (s : Int) : ∀ (L : List Ent) (c : Option (List UInt8)), (scanE s c L).Sublist L
  | [], c => List.Sublist.refl _
  | e :: L, c => by
    unfold scanE
    split
    · exact (scan_sub s L c).cons _
    · split
      · exact (scan_sub s L _).cons _
      · exact (scan_sub s L _).cons_cons _
theorem scan_seq {s : Int} : ∀ {L : List Ent} {c : Option (List UInt8)}, ∀ x ∈ scanE s c L, x.seq ≤ s ∧ x.dead = false
  | [], c => fun x hx => by cases hx
  | e :: L, c => fun x hx => by
    unfold scanE at hx
    split at hx
    · exact scan_seq x hx
    · split at hx
      · exact scan_seq x hx
      · rename_i h1 h2
        rcases List.mem_cons.1 hx with rfl | hx
        · exact ⟨by by_cases h : s < x.seq; exact absurd (.inl h) h1; omega, by simpa using h2⟩
        · exact scan_seq x hx
theorem scan_sorted (s : Int) : ∀ (L : List Ent) (c : Option (List UInt8)), L.Pairwise LTE → (∀ k, c = some k → kLe k L) →
    (scanE s c L).Pairwise (fun a b => Lib.compareBytes a.key b.key < 0) ∧ ∀ k, c = some k → ∀ x ∈ scanE s c L, Lib.compareBytes k x.key < 0
  | [], c, _, _ => ⟨List.Pairwise.nil, fun k _ x hx => by cases hx⟩
  | e :: L, c, h, hc => by
    have h2 := (List.pairwise_cons.1 h).2
    have hc2 : ∀ k, c = some k → kLe k L := fun k hk x hx => hc k hk x (List.mem_cons_of_mem _ hx)
    obtain ⟨i1, i2⟩ := scan_sorted s L c h2 hc2
    obtain ⟨j1, j2⟩ := scan_sorted s L (some e.key) h2 (fun k hk => by injection hk with hk; subst hk; exact kLe_self h)
    have key : ¬ (s < e.seq ∨ c = some e.key) → ∀ k, c = some k → Lib.compareBytes k e.key < 0 := fun hn k hk => by
      rcases hc k hk e List.mem_cons_self with h3 | h3
      · exact absurd (.inr (by rw [hk, h3])) hn
      · exact h3
    unfold scanE
    split
    · exact ⟨i1, i2⟩
    · rename_i hn
      split
      · exact ⟨j1, fun k hk x hx => cb_trans (key hn k hk) (j2 _ rfl x hx)⟩
      · refine ⟨List.pairwise_cons.2 ⟨fun x hx => j2 _ rfl x hx, j1⟩, fun k hk x hx => ?_⟩
        rcases List.mem_cons.1 hx with rfl | hx
        · exact key hn k hk
        · exact cb_trans (key hn k hk) (j2 _ rfl x hx)
theorem view_sorted {s : Int} {L : List Ent} (h : L.Pairwise LTE) : (viewE s L).Pairwise kLT := by
  unfold viewE
  rw [List.pairwise_map]
  exact (scan_sorted s L none h (fun k hk => by cases hk)).1
theorem scan_get (s : Int) (k : List UInt8) : ∀ (L : List Ent) (c : Option (List UInt8)), L.Pairwise LTE → (∀ k, c = some k → kLe k L) →
    getK k ((scanE s c L).map pairE) = if c = some k then none else alE k s L
  | [], c, _, _ => by unfold scanE; split <;> rfl
  | e :: L, c, h, hc => by
    have h2 := (List.pairwise_cons.1 h).2
    have hc2 : ∀ k, c = some k → kLe k L := fun k hk x hx => hc k hk x (List.mem_cons_of_mem _ hx)
    have ih := scan_get s k L c h2 hc2
    have jh := scan_get s k L (some e.key) h2 (fun k hk => by injection hk with hk; subst hk; exact kLe_self h)
    unfold scanE
    by_cases h1 : s < e.seq
    · rw [if_pos (.inl h1), ih, al_no (e := e) (fun h3 => by omega)]
    · by_cases h3 : c = some e.key
      · rw [if_pos (.inr h3), ih]
        by_cases hk : e.key = k
        · rw [if_pos (by rw [h3, hk]), if_pos (by rw [h3, hk])]
        · rw [if_neg (by rw [h3]; simpa using hk), if_neg (by rw [h3]; simpa using hk), al_no (fun h4 => hk h4.1)]
      · rw [if_neg (fun h4 => h4.elim h1 h3)]
        by_cases hk : e.key = k
        · have hck : ¬ c = some k := by rw [← hk]; exact h3
          rw [if_neg hck, al_yes ⟨hk, by omega⟩]
          unfold livE
          split
          · rw [jh, if_pos (by rw [hk])]
          · rw [List.map_cons]; unfold getK; rw [if_pos (show (pairE e).1 = k from hk)]; rfl
        · have hn : c = some k → alE k s L = none := fun h4 => by
            apply al_none
            intro x hx h5
            rcases hc k h4 e List.mem_cons_self with h6 | h6
            · exact hk h6.symm
            · rcases kLe_self h x hx with h7 | h7
              · exact hk (h7.trans h5)
              · exact kcb_ne (cb_trans h6 h7) h5.symm
          have hal : (if c = some k then none else alE k s (e :: L)) = alE k s L := by
            rw [al_no (fun h4 => hk h4.1)]
            split
            · rename_i h4; rw [hn h4]
            · rfl
          rw [hal]
          have h5 : ¬ (some e.key = some k) := by simpa using hk
          split
          · rw [jh, if_neg h5]
          · rw [List.map_cons]; unfold getK; rw [if_neg (show ¬ (pairE e).1 = k from hk), jh, if_neg h5]
theorem view_get {s : Int} {L : List Ent} (h : L.Pairwise LTE) (k : List UInt8) : getK k (viewE s L) = alE k s L := by
  unfold viewE
  rw [scan_get s k L none h (fun k hk => by cases hk), if_neg (by simp)]
theorem getK_none {k : List UInt8} : ∀ {M : List Kv}, (∀ p ∈ M, p.1 ≠ k) → getK k M = none
  | [], _ => rfl
  | p :: M, h => by unfold getK; rw [if_neg (h p List.mem_cons_self)]; exact getK_none fun q hq => h q (List.mem_cons_of_mem _ hq)
/-- Two rows of pairs by rising keys that tell the same are the same. -/
theorem kmap_ext : ∀ {A B : List Kv}, A.Pairwise kLT → B.Pairwise kLT → (∀ k, getK k A = getK k B) → A = B
  | [], [], _, _, _ => rfl
  | [], b :: B, _, _, h => by
    have := h b.1
    unfold getK at this
    rw [if_pos rfl] at this
    cases this
  | a :: A, [], _, _, h => by
    have := h a.1
    unfold getK at this
    rw [if_pos rfl] at this
    cases this
  | a :: A, b :: B, ha, hb, h => by
    obtain ⟨a1, a2⟩ := List.pairwise_cons.1 ha
    obtain ⟨b1, b2⟩ := List.pairwise_cons.1 hb
    have hk : a.1 = b.1 := by
      rcases kcb_tri a.1 b.1 with h1 | h1 | h1
      · have h2 := h a.1
        rw [getK_none (M := b :: B) (fun p hp => ?_)] at h2
        · unfold getK at h2; rw [if_pos rfl] at h2; cases h2
        · rcases List.mem_cons.1 hp with rfl | hp
          · exact (kcb_ne h1).symm
          · exact (kcb_ne (cb_trans h1 (b1 p hp))).symm
      · exact h1
      · have h2 := h b.1
        rw [getK_none (M := a :: A) (fun p hp => ?_)] at h2
        · unfold getK at h2; rw [if_pos rfl] at h2; cases h2
        · rcases List.mem_cons.1 hp with rfl | hp
          · exact (kcb_ne h1).symm
          · exact (kcb_ne (cb_trans h1 (a1 p hp))).symm
    have hv : a.2 = b.2 := by
      have h2 := h a.1
      unfold getK at h2
      rw [if_pos rfl, if_pos hk.symm] at h2
      injection h2
    have he : a = b := Prod.ext hk hv
    subst he
    rw [kmap_ext a2 b2 fun k => ?_]
    have h2 := h k
    unfold getK at h2
    by_cases hka : a.1 = k
    · rw [getK_none (fun p hp => by rw [← hka]; exact (kcb_ne (a1 p hp)).symm), getK_none (fun p hp => by rw [← hka]; exact (kcb_ne (b1 p hp)).symm)]
    · rwa [if_neg hka, if_neg hka] at h2
theorem getK_mem {k v : List UInt8} : ∀ {M : List Kv}, getK k M = some v → (k, v) ∈ M
  | [], h => by cases h
  | p :: M, h => by
    unfold getK at h
    split at h
    · rename_i h1
      injection h with h
      exact List.mem_cons.2 (.inl (Prod.ext h1.symm h.symm))
    · exact List.mem_cons_of_mem _ (getK_mem h)
/-- A view is what a map tells. -/
theorem view_is {s : Int} {L : List Ent} {M : List Kv} (h : L.Pairwise LTE) (hM : M.Pairwise kLT) (he : ∀ k, alE k s L = getK k M) : viewE s L = M :=
  kmap_ext (view_sorted h) hM fun k => by rw [view_get h, he]
/-- A change of the map. -/
structure Chn where
  key : List UInt8
  value : List UInt8
  dead : Bool
def livC (p : Chn) : Option (List UInt8) := if p.dead = true then none else some p.value
def putM (p : Chn) (M : List Kv) : List Kv := M.takeWhile (fun q => Lib.compareBytes q.1 p.key < 0) ++ ((if p.dead = true then [] else [(p.key, p.value)]) ++ (match M.dropWhile (fun q => Lib.compareBytes q.1 p.key < 0) with | [] => [] | q :: T => if q.1 = p.key then T else q :: T))
theorem putM_parts (p : Chn) {M : List Kv} (h : M.Pairwise kLT) : ∃ A B, putM p M = A ++ ((if p.dead = true then [] else [(p.key, p.value)]) ++ B) ∧ (∀ q ∈ A, Lib.compareBytes q.1 p.key < 0) ∧ (∀ q ∈ B, Lib.compareBytes p.key q.1 < 0) ∧ (A ++ B).Pairwise kLT ∧ (∀ k, k ≠ p.key → getK k (A ++ B) = getK k M) := by
  have e := (List.takeWhile_append_dropWhile (p := fun q : Kv => decide (Lib.compareBytes q.1 p.key < 0)) (l := M))
  have hA : ∀ q ∈ M.takeWhile (fun q => Lib.compareBytes q.1 p.key < 0), Lib.compareBytes q.1 p.key < 0 := fun q hq => by
    have := takeW_mem hq
    simpa using this
  have gapp : ∀ (k : List UInt8) (A B C : List Kv), getK k B = getK k C → getK k (A ++ B) = getK k (A ++ C) := fun k A B C h => by
    induction A with
    | nil => exact h
    | cons a A ih => show (if a.1 = k then some a.2 else getK k (A ++ B)) = (if a.1 = k then some a.2 else getK k (A ++ C)); rw [ih]
  unfold putM
  cases hd : M.dropWhile (fun q => Lib.compareBytes q.1 p.key < 0) with
  | nil =>
    rw [hd, List.append_nil] at e
    exact ⟨_, [], rfl, hA, by simp, by rw [List.append_nil, e]; exact h, fun k _ => by rw [List.append_nil, e]⟩
  | cons q T =>
    rw [hd] at e
    have hq : ¬ Lib.compareBytes q.1 p.key < 0 := by
      have := List.head_dropWhile_not (p := fun q : Kv => decide (Lib.compareBytes q.1 p.key < 0)) (l := M) (by rw [hd]; simp)
      simp only [hd, List.head_cons] at this
      simpa using this
    have hp := h
    rw [← e] at hp
    obtain ⟨_, h2, h3⟩ := List.pairwise_append.1 hp
    obtain ⟨h4, h5⟩ := List.pairwise_cons.1 h2
    by_cases hqk : q.1 = p.key
    · refine ⟨_, T, by simp only [if_pos hqk], hA, fun x hx => by rw [← hqk]; exact h4 x hx, ?_, fun k hk => ?_⟩
      · exact hp.sublist (List.Sublist.append (List.Sublist.refl _) (List.sublist_cons_self _ _))
      · have h6 := congrArg (getK k) e
        rw [← h6]
        refine gapp k _ _ _ ?_
        show _ = if q.1 = k then some q.2 else getK k T
        rw [if_neg (by rw [hqk]; exact fun h => hk h.symm)]
    · have hlt : Lib.compareBytes p.key q.1 < 0 := by
        rcases kcb_tri p.key q.1 with h6 | h6 | h6
        · exact h6
        · exact absurd h6.symm hqk
        · exact absurd h6 hq
      refine ⟨_, q :: T, by simp only [if_neg hqk], hA, fun x hx => ?_, hp, fun k hk => by rw [e]⟩
      rcases List.mem_cons.1 hx with rfl | hx
      · exact hlt
      · exact cb_trans hlt (h4 x hx)
theorem putM_sorted (p : Chn) {M : List Kv} (h : M.Pairwise kLT) : (putM p M).Pairwise kLT := by
  obtain ⟨A, B, e, hA, hB, hAB, _⟩ := putM_parts p h
  rw [e]
  split
  · exact hAB
  · obtain ⟨h1, h2, h3⟩ := List.pairwise_append.1 hAB
    refine List.pairwise_append.2 ⟨h1, List.pairwise_cons.2 ⟨fun q hq => hB q hq, h2⟩, fun a ha b hb => ?_⟩
    rcases List.mem_cons.1 hb with rfl | hb
    · exact hA a ha
    · exact h3 a ha b hb
theorem putM_get (p : Chn) {M : List Kv} (h : M.Pairwise kLT) (k : List UInt8) : getK k (putM p M) = if p.key = k then livC p else getK k M := by
  obtain ⟨A, B, e, hA, hB, hAB, hg⟩ := putM_parts p h
  have gno : ∀ (A B : List Kv), (∀ q ∈ A, q.1 ≠ k) → getK k (A ++ B) = getK k B := fun A B h => by
    induction A with
    | nil => rfl
    | cons a A ih =>
      show (if a.1 = k then some a.2 else getK k (A ++ B)) = _
      rw [if_neg (h a List.mem_cons_self), ih fun q hq => h q (List.mem_cons_of_mem _ hq)]
  rw [e]
  by_cases hk : p.key = k
  · rw [if_pos hk, gno A _ (fun q hq => by rw [← hk]; exact kcb_ne (hA q hq))]
    unfold livC
    split
    · rw [List.nil_append]; exact getK_none fun q hq => by rw [← hk]; exact (kcb_ne (hB q hq)).symm
    · show (if p.key = k then some p.value else _) = _
      rw [if_pos hk]
  · rw [if_neg hk, ← hg k (fun h => hk h.symm)]
    split
    · rfl
    · have gapp : ∀ (A : List Kv), getK k (A ++ ([(p.key, p.value)] ++ B)) = getK k (A ++ B) := fun A => by
        induction A with
        | nil => show (if p.key = k then some p.value else getK k B) = _; rw [if_neg hk]; rfl
        | cons a A ih => show (if a.1 = k then some a.2 else getK k (A ++ _)) = (if a.1 = k then some a.2 else getK k (A ++ B)); rw [ih]
      exact gapp A
def putsM (ps : List Chn) (M : List Kv) : List Kv := ps.foldl (fun M p => putM p M) M
/-- The last change of a key in a batch. -/
def lastC (k : List UInt8) : List Chn → Option Chn
  | [] => none
  | p :: l => match lastC k l with | some q => some q | none => if p.key = k then some p else none
/-- The changes of which each key has one. -/
def lastB : List Chn → List Chn
  | [] => []
  | p :: l => if l.any (fun q => decide (q.key = p.key)) = true then lastB l else p :: lastB l
theorem lastC_none {k : List UInt8} : ∀ {l : List Chn}, lastC k l = none ↔ ∀ q ∈ l, q.key ≠ k
  | [] => by simp [lastC]
  | p :: l => by
    have ih := lastC_none (k := k) (l := l)
    unfold lastC
    cases h : lastC k l with
    | some q =>
      simp only
      constructor
      · intro h2; cases h2
      · intro h2
        have := ih.2 fun q hq => h2 q (List.mem_cons_of_mem _ hq)
        rw [h] at this; cases this
    | none =>
      have h3 := ih.1 h
      simp only
      constructor
      · intro h2 q hq
        rcases List.mem_cons.1 hq with rfl | hq
        · intro h4; rw [if_pos h4] at h2; cases h2
        · exact h3 q hq
      · intro h2
        rw [if_neg (h2 p List.mem_cons_self)]
theorem lastB_find (k : List UInt8) : ∀ l : List Chn, (lastB l).find? (fun q => decide (q.key = k)) = lastC k l
  | [] => rfl
  | p :: l => by
    have ih := lastB_find k l
    unfold lastB
    split
    · rename_i h
      rw [ih]
      show lastC k l = match lastC k l with | some q => some q | none => if p.key = k then some p else none
      cases h2 : lastC k l with
      | some q => rfl
      | none =>
        simp only
        rw [if_neg]
        intro h3
        obtain ⟨q, hq, h4⟩ := List.any_eq_true.1 h
        exact lastC_none.1 h2 q hq (by rw [← h3]; simpa using h4)
    · rename_i h
      rw [List.find?_cons]
      show _ = match lastC k l with | some q => some q | none => if p.key = k then some p else none
      by_cases hk : p.key = k
      · rw [decide_eq_true hk]
        have h2 : lastC k l = none := lastC_none.2 fun q hq h3 => h (List.any_eq_true.2 ⟨q, hq, by rw [hk]; simpa using h3⟩)
        rw [h2]
        simp only
        rw [if_pos hk]
      · rw [decide_eq_false hk, ih]
        cases lastC k l with
        | some q => rfl
        | none => simp only; rw [if_neg hk]
theorem lastB_mem : ∀ {l : List Chn} {p : Chn}, p ∈ lastB l → p ∈ l
  | [], p, h => h
  | q :: l, p, h => by
    unfold lastB at h
    split at h
    · exact List.mem_cons_of_mem _ (lastB_mem h)
    · rcases List.mem_cons.1 h with rfl | h
      · exact List.mem_cons_self
      · exact List.mem_cons_of_mem _ (lastB_mem h)
theorem lastB_once : ∀ l : List Chn, (lastB l).Pairwise fun a b => a.key ≠ b.key
  | [] => List.Pairwise.nil
  | p :: l => by
    unfold lastB
    split
    · exact lastB_once l
    · rename_i h
      refine List.pairwise_cons.2 ⟨fun q hq h2 => h (List.any_eq_true.2 ⟨q, lastB_mem hq, by simpa using h2.symm⟩), lastB_once l⟩
theorem putsM_sorted : ∀ (ps : List Chn) {M : List Kv}, M.Pairwise kLT → (putsM ps M).Pairwise kLT
  | [], M, h => h
  | p :: ps, M, h => putsM_sorted ps (putM_sorted p h)
theorem putsM_get (k : List UInt8) : ∀ (ps : List Chn) {M : List Kv}, M.Pairwise kLT → getK k (putsM ps M) = match lastC k ps with | some p => livC p | none => getK k M
  | [], M, h => rfl
  | p :: ps, M, h => by
    show getK k (putsM ps (putM p M)) = match (match lastC k ps with | some q => some q | none => if p.key = k then some p else none) with | some p => livC p | none => getK k M
    rw [putsM_get k ps (putM_sorted p h)]
    cases lastC k ps with
    | some q => rfl
    | none =>
      simp only
      rw [putM_get p h]
      split <;> rfl
/-- What a Put leaves of a row of entries. -/
def insE (e : Ent) (L : List Ent) : List Ent := L.takeWhile (fun x => lessE x e) ++ e :: L.dropWhile (fun x => lessE x e)
theorem insE_parts (e : Ent) (L : List Ent) : ∃ A B, L = A ++ B ∧ insE e L = A ++ e :: B ∧ ∀ x ∈ A, LTE x e := by
  refine ⟨_, _, (List.takeWhile_append_dropWhile (p := fun x => lessE x e) (l := L)).symm, rfl, fun x hx => ?_⟩
  exact takeW_mem (f := fun x => lessE x e) hx
theorem insE_lk {e : Ent} {L : List Ent} (h : ∀ x ∈ L, x.key = e.key → x.seq < e.seq) (k : List UInt8) (s : Int) : lkE k s (insE e L) = if e.key = k ∧ e.seq ≤ s then some e else lkE k s L := by
  obtain ⟨A, B, h1, h2, h3⟩ := insE_parts e L
  rw [h2]
  split
  · rename_i hk
    rw [lk_app_no, lk_yes hk]
    intro x hx h4
    rcases lte_iff.1 (h3 x hx) with h5 | ⟨h5, h6⟩
    · exact kcb_ne h5 (h4.trans hk.1.symm)
    · have := h x (by rw [h1]; exact List.mem_append_left _ hx) h5
      omega
  · rename_i hk
    rw [h1]
    unfold lkE
    rw [List.find?_append, List.find?_append]
    have := lk_no (L := B) hk
    unfold lkE at this
    rw [this]
theorem insE_al {e : Ent} {L : List Ent} (h : ∀ x ∈ L, x.key = e.key → x.seq < e.seq) (k : List UInt8) (s : Int) : alE k s (insE e L) = if e.key = k ∧ e.seq ≤ s then livE e else alE k s L := by
  unfold alE
  rw [insE_lk h]
  split <;> rfl
theorem insE_mem {e x : Ent} {L : List Ent} : x ∈ insE e L ↔ x = e ∨ x ∈ L := by
  obtain ⟨A, B, h1, h2, _⟩ := insE_parts e L
  rw [h2, h1, List.mem_append, List.mem_cons, List.mem_append]
  constructor
  · rintro (h | h | h)
    · exact .inr (.inl h)
    · exact .inl h
    · exact .inr (.inr h)
  · rintro (h | h | h)
    · exact .inr (.inl h)
    · exact .inl h
    · exact .inr (.inr h)
/-- Behind all others. -/
theorem insE_last {e : Ent} {L : List Ent} (h : ∀ x ∈ L, LTE x e) : insE e L = L ++ [e] := by
  unfold insE
  obtain ⟨h1, h2⟩ := takeW_all (f := fun x => lessE x e) (L := L) h
  rw [h1, h2]
def entC (n : Int) (p : Chn) : Ent := ⟨p.key, p.value, n, p.dead⟩
def insL (n : Int) (ps : List Chn) (L : List Ent) : List Ent := ps.foldl (fun L p => insE (entC n p) L) L
theorem insL_mem {n : Int} {x : Ent} : ∀ {ps : List Chn} {L : List Ent}, x ∈ insL n ps L ↔ x ∈ L ∨ ∃ p ∈ ps, x = entC n p
  | [], L => by simp [insL]
  | p :: ps, L => by
    show x ∈ insL n ps (insE (entC n p) L) ↔ _
    rw [insL_mem, insE_mem]
    constructor
    · rintro ((h | h) | ⟨q, hq, h⟩)
      · exact .inr ⟨p, List.mem_cons_self, h⟩
      · exact .inl h
      · exact .inr ⟨q, List.mem_cons_of_mem _ hq, h⟩
    · rintro (h | ⟨q, hq, h⟩)
      · exact .inl (.inr h)
      · rcases List.mem_cons.1 hq with rfl | hq
        · exact .inl (.inl h)
        · exact .inr ⟨q, hq, h⟩
theorem insL_al (n : Int) (k : List UInt8) (s : Int) : ∀ (ps : List Chn) (L : List Ent), (ps.Pairwise fun a b => a.key ≠ b.key) → (∀ p ∈ ps, ∀ x ∈ L, x.key = p.key → x.seq < n) →
    alE k s (insL n ps L) = if n ≤ s then (match ps.find? (fun q => decide (q.key = k)) with | some p => livC p | none => alE k s L) else alE k s L
  | [], L, _, _ => by simp [insL]
  | p :: ps, L, h, hl => by
    obtain ⟨h1, h2⟩ := List.pairwise_cons.1 h
    show alE k s (insL n ps (insE (entC n p) L)) = _
    rw [insL_al n k s ps _ h2 (fun q hq x hx hk => by
      rcases insE_mem.1 hx with rfl | hx
      · exact absurd hk (h1 q hq)
      · exact hl q (List.mem_cons_of_mem _ hq) x hx hk)]
    have h3 := insE_al (e := entC n p) (L := L) (fun x hx hk => hl p List.mem_cons_self x hx hk) k s
    rw [h3, List.find?_cons]
    show (if n ≤ s then _ else if p.key = k ∧ n ≤ s then livC p else alE k s L) = _
    by_cases hn : n ≤ s
    · rw [if_pos hn, if_pos hn]
      by_cases hk : p.key = k
      · rw [decide_eq_true hk]
        have h4 : ps.find? (fun q => decide (q.key = k)) = none := by
          rw [List.find?_eq_none]
          intro q hq h5
          exact h1 q hq (by rw [hk]; simpa using (of_decide_eq_true h5).symm)
        rw [h4]
        simp only
        rw [if_pos ⟨hk, hn⟩]
        rfl
      · rw [decide_eq_false hk]
        cases ps.find? (fun q => decide (q.key = k)) with
        | some q => rfl
        | none => simp only; rw [if_neg (fun h5 => hk h5.1)]
    · rw [if_neg hn, if_neg hn, if_neg (fun h5 => hn h5.2)]
/-- A batch that is put: the view of now is the map with its changes, views of before stay. -/
theorem done_now {n s : Int} {ps : List Chn} {L : List Ent} {M : List Kv} (hn : n ≤ s) (hl : ∀ x ∈ L, x.seq < n) (hM : M.Pairwise kLT) (h : ∀ k, alE k s L = getK k M) (k : List UInt8) : alE k s (insL n (lastB ps) L) = getK k (putsM ps M) := by
  rw [insL_al n k s _ _ (lastB_once ps) (fun p _ x hx _ => hl x hx), if_pos hn, lastB_find, putsM_get k ps hM, h]
theorem done_then {n s : Int} {ps : List Chn} {L : List Ent} (hn : s < n) (hl : ∀ x ∈ L, x.seq < n) (k : List UInt8) : alE k s (insL n (lastB ps) L) = alE k s L := by
  rw [insL_al n k s _ _ (lastB_once ps) (fun p _ x hx _ => hl x hx), if_neg (by omega)]
/-- What is told does not hang on a number above all. -/
theorem al_above {s t : Int} {L : List Ent} (hs : ∀ x ∈ L, x.seq ≤ s) (ht : ∀ x ∈ L, x.seq ≤ t) (k : List UInt8) : alE k s L = alE k t L := by
  have : lkE k s L = lkE k t L := by
    unfold lkE
    induction L with
    | nil => rfl
    | cons e L ih =>
      rw [List.find?_cons, List.find?_cons, ih (fun x hx => hs x (List.mem_cons_of_mem _ hx)) (fun x hx => ht x (List.mem_cons_of_mem _ hx))]
      have h1 := hs e List.mem_cons_self
      have h2 := ht e List.mem_cons_self
      unfold hitE
      rw [decide_eq_true h1, decide_eq_true h2]
  unfold alE
  rw [this]
end Go.Proofs.Ytaoenbjfkahdjaa
