/- The document's table, as a part of memory. -/
import Derived.Test.YtlcifkkgekpicaaTwin
namespace Go.Proofs.Ytlcifkkgekpicaa
open Go.RowKit
set_option linter.unusedVariables false

def eslc (es : List En) : List Slc := es.flatMap fun e => [e.key, e.value]
def i64s (l : List Nat) : List Value := l.map fun n : Nat => .int .i64 (n : Int)
/-- The table: its block, its row of entries, its row of heights, the bytes of the entries. -/
def RTabC (r : Nat) (vL vH : Value) (es : List En) (hs : List Nat) : SP :=
  Pt r 51 #[vL, vH] * (Row 24 4 vL es.length (es.flatMap enV) * (Row 3 1 vH hs.length (i64s hs) * RoL (eslc es)))
def RTab (r : Nat) (es : List En) (hs : List Nat) : SP := fun h => ∃ vL vH, RTabC r vL vH es hs h
section
variable {w0 w : World} {F : SP} {r : Nat} {vL vH : Value} {es : List En} {hs : List Nat}
theorem Sat.rtab (h : Sat w0 (RTab r es hs * F) w) : ∃ vL vH, Sat w0 (RTabC r vL vH es hs * F) w := by
  obtain ⟨c, x, h1, a, f, h2, h3, ⟨y, z, h4⟩, h5⟩ := h
  exact ⟨y, z, c, x, h1, a, f, h2, h3, h4, h5⟩
theorem Sat.rtabI (h : Sat w0 (RTabC r vL vH es hs * F) w) : Sat w0 (RTab r es hs * F) w := h.mono fun y ⟨a, f, h2, h3, h5, h6⟩ => ⟨a, f, h2, h3, ⟨vL, vH, h5⟩, h6⟩
theorem rtab_d (r : Nat) (vL vH : Value) (es : List En) (hs : List Nat) (F : SP) : RTabC r vL vH es hs * F = Pt r 51 #[vL, vH] * (Row 24 4 vL es.length (es.flatMap enV) * (Row 3 1 vH hs.length (i64s hs) * (RoL (eslc es) * F))) := by
  unfold RTabC; ac_rfl
theorem Sat.rtabL (h : Sat w0 (RTabC r vL vH es hs * F) w) : w.cell? ⟨r, 0, none⟩ = some vL := (h.of (rtab_d ..)).cell 0
theorem Sat.rtabH (h : Sat w0 (RTabC r vL vH es hs * F) w) : w.cell? ⟨r, 1, none⟩ = some vH := (h.of (rtab_d ..)).cell 1
/-- A row, as it reads, whatever the size of its elements. -/
theorem Sat.row_rdK {e : TypeId} {size n c : Nat} {A : Option Addr} {xs : List Value} (h : Sat w0 (Row e size (.slice A n c) n xs * F) w) : RdV w A xs := fun hx => by
  obtain ⟨hl, ⟨_, e2, _⟩ | ⟨g, cap, cur, e1, h1, h2, h3, h4, h5⟩⟩ := h.row_cases
  · subst e2
    exact absurd (List.eq_nil_of_length_eq_zero (by simpa using hl)) hx
  · injection e1 with e1 _ e3
    refine ⟨g, 0, e1, fun j hj => ?_⟩
    rw [Nat.zero_add, h5.cell]
    have h6 : xs[j]? = some xs[j] := List.getElem?_eq_getElem hj
    rw [← h6, ← h4, List.getElem?_take, if_pos (by omega)]
    simp
/-- Where a row lies. -/
theorem Sat.row_form {e : TypeId} {size n : Nat} {v : Value} {xs : List Value} (h : Sat w0 (Row e size v n xs * F) w) : ∃ A c, v = .slice A n c ∧ n ≤ c ∧ c ≤ maxLen ∧ ((A = none ∧ c = 0) ∨ ∃ g, A = some ⟨g, 0, none⟩) := by
  obtain ⟨_, ⟨e1, e2, _⟩ | ⟨g, cap, cur, e1, h1, h2, _⟩⟩ := h.row_cases
  · exact ⟨none, 0, by rw [e1, e2], by omega, Nat.zero_le _, .inl ⟨rfl, rfl⟩⟩
  · exact ⟨_, _, e1, h1, h2, .inr ⟨g, rfl⟩⟩
end
theorem ent_ones (es : List En) : ∀ u ∈ es.flatMap enV, u.oneCell' = true := by
  intro u hu
  obtain ⟨e, _, he⟩ := List.mem_flatMap.1 hu
  unfold enV slv' at he
  simp at he
  rcases he with rfl | rfl | rfl | rfl <;> rfl
theorem i64_ones (l : List Nat) : ∀ u ∈ i64s l, u.oneCell' = true := by
  intro u hu
  obtain ⟨n, _, rfl⟩ := List.mem_map.1 hu
  rfl
theorem ents_len (es : List En) : (es.flatMap enV).length = es.length * 4 := flatK_len enV_len es
theorem ents_app (a b : List En) : (a ++ b).flatMap enV = a.flatMap enV ++ b.flatMap enV := List.flatMap_append
theorem ents_tk (es : List En) (n : Nat) : (es.take n).flatMap enV = (es.flatMap enV).take (n * 4) := by
  induction es generalizing n with
  | nil => simp
  | cons e es ih =>
    cases n with
    | zero => simp
    | succ n =>
      rw [List.take_succ_cons, List.flatMap_cons, List.flatMap_cons, ih, List.take_append]
      have : (enV e).length = 4 := rfl
      rw [this, List.take_of_length_le (l := enV e) (by rw [this]; omega), show (n + 1) * 4 - 4 = n * 4 by omega]
theorem ents_dp (es : List En) (n : Nat) : (es.drop n).flatMap enV = (es.flatMap enV).drop (n * 4) := by
  induction es generalizing n with
  | nil => simp
  | cons e es ih =>
    cases n with
    | zero => simp
    | succ n =>
      rw [List.drop_succ_cons, List.flatMap_cons, ih, List.drop_append]
      have : (enV e).length = 4 := rfl
      rw [this, List.drop_of_length_le (l := enV e) (by rw [this]; omega), show (n + 1) * 4 - 4 = n * 4 by omega, List.nil_append]
/-- What stands ahead: how many. -/
def atN (e : Ent) (L : List Ent) : Nat := (L.takeWhile fun x => lessE x e).length
theorem at_le (e : Ent) (L : List Ent) : atN e L ≤ L.length := by unfold atN; exact (List.takeWhile_sublist _).length_le
theorem at_low {e : Ent} {L : List Ent} {k : Nat} (hk : k < L.length) (h : k < atN e L) : lessE L[k] e = true := by
  have h1 : (L.takeWhile fun x => lessE x e)[k]'h ∈ L.takeWhile fun x => lessE x e := List.getElem_mem _
  have h2 := tw_mem h1
  have h3 : L[k] = (L.takeWhile fun x => lessE x e)[k]'h := by
    have e0 := split_at (fun x => lessE x e) L
    have h4 : L[k]? = (L.takeWhile fun x => lessE x e)[k]? := by
      conv => lhs; rw [e0]
      rw [List.getElem?_append_left h]
    rw [List.getElem?_eq_getElem hk, List.getElem?_eq_getElem h] at h4
    exact Option.some.inj h4
  rw [h3]
  exact h2
theorem at_here {e : Ent} {L : List Ent} {k : Nat} (hk : k < L.length) (hlow : ∀ i (h : i < L.length), i < k → lessE L[i] e = true) (h : lessE L[k] e = false) : k = atN e L := by
  rcases Nat.lt_trichotomy k (atN e L) with q | q | q
  · rw [at_low hk q] at h; cases h
  · exact q
  · have hl : atN e L < L.length := by omega
    have e0 := split_at (fun x => lessE x e) L
    cases hd : L.dropWhile (fun x => lessE x e) with
    | nil =>
      rw [hd, List.append_nil] at e0
      have := congrArg List.length e0
      unfold atN at hl
      omega
    | cons x s =>
      have h2 : L[atN e L]? = some x := by
        obtain ⟨q', hq'⟩ : ∃ q', q' = atN e L := ⟨_, rfl⟩
        rw [← hq']
        have hq2 : (L.takeWhile fun x => lessE x e).length = q' := hq'.symm
        conv => lhs; rw [e0, hd]
        rw [List.getElem?_append_right (by omega), hq2]
        simp
      rw [List.getElem?_eq_getElem hl] at h2
      have h2 := Option.some.inj h2
      have h3 := List.head?_dropWhile_not (fun x => lessE x e) L
      rw [hd] at h3
      simp at h3
      have h4 := hlow _ hl q
      rw [h2, h3] at h4
      cases h4
theorem at_end {e : Ent} {L : List Ent} (hlow : ∀ i (h : i < L.length), lessE L[i] e = true) : L.length = atN e L := by
  have h := at_le e L
  rcases Nat.eq_or_lt_of_le h with q | q
  · exact q.symm
  · have e0 := split_at (fun x => lessE x e) L
    cases hd : L.dropWhile (fun x => lessE x e) with
    | nil => rw [hd, List.append_nil] at e0; have := congrArg List.length e0; unfold atN; omega
    | cons x s =>
      have hx : x ∈ L := by rw [e0, hd]; simp
      obtain ⟨i, hi, rfl⟩ := List.mem_iff_getElem.1 hx
      have h3 := List.head?_dropWhile_not (fun x => lessE x e) L
      rw [hd] at h3
      simp at h3
      rw [hlow i hi] at h3
      cases h3
/-- The row and the place. -/
theorem take_at (e : Ent) (L : List Pr) : L.takeWhile (fun p => lessE p.1 e) = L.take (atN e (L.map (·.1))) ∧ L.dropWhile (fun p => lessE p.1 e) = L.drop (atN e (L.map (·.1))) := by
  induction L with
  | nil => exact ⟨rfl, rfl⟩
  | cons p L ih =>
    unfold atN
    rw [List.map_cons, List.takeWhile_cons, List.dropWhile_cons, List.takeWhile_cons]
    cases h : lessE p.1 e with
    | true => simp only [if_true, List.length_cons, List.take_succ_cons, List.drop_succ_cons]; exact ⟨congrArg _ ih.1, ih.2⟩
    | false => simp
def absR (es : List En) (hs : List Nat) : List Pr := (es.map En.ent).zip hs
theorem absR_fst {es : List En} {hs : List Nat} (h : es.length = hs.length) : (absR es hs).map (·.1) = es.map En.ent := by
  unfold absR
  exact List.map_fst_zip (by simpa using Nat.le_of_eq h)
theorem absR_ins {es : List En} {hs : List Nat} {n : En} {e : Ent} {h : Nat} (hl : es.length = hs.length) (hn : n.ent = e) (ht : twiceM e (absR es hs) = false) :
    absR (es.take (atN e (es.map En.ent)) ++ n :: es.drop (atN e (es.map En.ent))) (hs.take (atN e (es.map En.ent)) ++ h :: hs.drop (atN e (es.map En.ent))) = insM e h (absR es hs) := by
  have ha := take_at e (absR es hs)
  rw [absR_fst hl] at ha
  have hk := at_le e (es.map En.ent)
  simp only [List.length_map] at hk
  unfold insM aheadM behindM
  rw [ht, ha.1, ha.2]
  generalize atN e (es.map En.ent) = k at *
  simp only [Bool.false_eq_true, if_false]
  unfold absR
  rw [List.map_append, List.map_cons, hn, List.map_take, List.map_drop, List.zip_append (by simp; omega), List.zip_cons_cons]
  congr 1
  · simp only [List.zip, List.take_zipWith]
  · simp only [List.zip, List.drop_zipWith]
end Go.Proofs.Ytlcifkkgekpicaa
