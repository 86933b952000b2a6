/- What the document's space answers is what the code's does: the plain laws. -/
import Derived.Test.YtjmapbhgjhlefaaQSpr7
namespace Go.Proofs.Ytjmapbhgjhlefaa
open Go.RowKit
set_option linter.unusedVariables false
set_option maxRecDepth 100000

section
variable {n t : Nat} {fs ts : List Rf} {S T : Spc} {D : Dk} {sf : Nat → Nat} {lim : Nat} {add : List Fi} {drop : List Int}
/-- A row of the document's files and one of the code's that are alike. -/
theorem ins_key {f : Rf} {g : Fl} (hk : keyR f = keyF g) : ∀ {ts : List Rf} {gs : List Fl}, ts.map keyR = gs.map keyF → (insRf f ts).map keyR = (insR g gs).map keyF
  | [], [], _ => by show [keyR f] = [keyF g]; rw [hk]
  | [], y :: gs, h => by cases h
  | x :: ts, [], h => by cases h
  | x :: ts, y :: gs, h => by
    rw [List.map_cons, List.map_cons] at h
    injection h with h1 h2
    have ih := ins_key hk h2
    have hn : x.num = y.num := congrArg (fun k : Nat × Nat × Nat × List (List UInt8) => k.1) h1
    have hm : f.num = g.num := congrArg (fun k : Nat × Nat × Nat × List (List UInt8) => k.1) hk
    unfold insRf insR at ih ⊢
    by_cases hlt : y.num < g.num
    · have h3 : decide (x.num < f.num) = true := by rw [hn, hm]; simpa using hlt
      have h4 : decide (y.num < g.num) = true := by simpa using hlt
      rw [List.takeWhile_cons, List.dropWhile_cons, List.takeWhile_cons, List.dropWhile_cons, h3, h4]
      simp only [if_true, List.cons_append, List.map_cons, h1]
      rw [ih]
    · have h3 : decide (x.num < f.num) = false := by rw [hn, hm]; simpa using hlt
      have h4 : decide (y.num < g.num) = false := by simpa using hlt
      rw [List.takeWhile_cons, List.dropWhile_cons, List.takeWhile_cons, List.dropWhile_cons, h3, h4]
      simp only [Bool.false_eq_true, if_false, List.nil_append, List.map_cons, hk, h1, h2]
theorem radd_none : ∀ (add : List Fi) (lie : List (Nat × Nat)) (ts : List Rf) (fl : List Fl), raddX n add lie ts = none → addX n t add lie fl = none
  | [], lie, ts, fl, h => by cases h
  | x :: add, lie, ts, fl, h => by
    obtain ⟨a, o, e⟩ : ∃ a o, placeX n x.blocks 2 (sortF lie) = (a, o) := ⟨_, _, rfl⟩
    cases o with
    | false => exact addX_no e
    | true =>
      rw [raddX_yes e] at h
      rw [addX_yes e]
      exact radd_none add _ _ _ h
theorem radd_some : ∀ (add : List Fi) (lie : List (Nat × Nat)) (ts ts' : List Rf) (gs fl : List Fl), ts.map keyR = gs.map keyF → raddX n add lie ts = some ts' → ∃ news, addX n t add lie fl = some (fl ++ news) ∧ ts'.map keyR = (addR news gs).map keyF
  | [], lie, ts, ts', gs, fl, hk, h => by
    injection h with h
    subst h
    exact ⟨[], by rw [List.append_nil]; rfl, hk⟩
  | x :: add, lie, ts, ts', gs, fl, hk, h => by
    obtain ⟨a, o, e⟩ : ∃ a o, placeX n x.blocks 2 (sortF lie) = (a, o) := ⟨_, _, rfl⟩
    cases o with
    | false => rw [raddX_no e] at h; cases h
    | true =>
      rw [raddX_yes e] at h
      obtain ⟨news, h1, h2⟩ := radd_some add _ _ ts' (insR ⟨x.num.toNat, a, x.blocks.toNat, t, 1, []⟩ gs) (fl ++ [⟨x.num.toNat, a, x.blocks.toNat, t, 1, []⟩]) (ins_key rfl hk) h
      refine ⟨⟨x.num.toNat, a, x.blocks.toNat, t, 1, []⟩ :: news, ?_, h2⟩
      rw [addX_yes e, h1, List.append_assoc]
      rfl
theorem kept_key (h : Mat S fs) : (keptR drop fs).map keyR = (S.files.filter fun f => !drop.contains (f.num : Int)).map keyF := by
  have h1 : ∀ (fs : List Rf) (gs : List Fl), fs.map keyR = gs.map keyF → (keptR drop fs).map keyR = (gs.filter fun f => !drop.contains (f.num : Int)).map keyF := by
    intro fs
    induction fs with
    | nil => intro gs hg; cases gs with | nil => rfl | cons y gs => cases hg
    | cons x fs ih =>
      intro gs hg
      cases gs with
      | nil => cases hg
      | cons y gs =>
        rw [List.map_cons, List.map_cons] at hg
        injection hg with e1 e2
        have hn : x.num = y.num := congrArg (fun k : Nat × Nat × Nat × List (List UInt8) => k.1) e1
        have ih2 := ih gs e2
        unfold keptR at ih2 ⊢
        have e3 : (!decide ((x.num : Int) ∈ drop)) = !drop.contains (y.num : Int) := by rw [hn]; simp
        rw [List.filter_cons, List.filter_cons, e3]
        split
        · rw [List.map_cons, List.map_cons, List.map_cons, ih2]
          exact congrArg (· :: _) e1
        · exact ih2
  exact h1 _ _ h
theorem Mat.lie (h : Mat S fs) : S.lie = fs.map rfLie := by
  have h1 := congrArg (List.map (fun k : Nat × Nat × Nat × List (List UInt8) => (k.2.1, k.2.2.1))) h
  rw [List.map_map, List.map_map] at h1
  exact h1.symm
/-- The document's Switch and the code's: the same error. -/
theorem sw_both (hg : Good D S sf lim) (hlim : lim + 1 ≤ 1000000000) (ha : D.armed ≠ 1) (hm : Mat S fs) :
    (¬ (GoodA fs drop add ∧ GoodDr fs drop) → S.switch add drop D = (S, D, 31)) ∧
    (GoodA fs drop add → GoodDr fs drop → (24 : Int) < (fs.length : Int) + add.length - drop.length → S.switch add drop D = (S, D, 32)) ∧
    (GoodA fs drop add → GoodDr fs drop → ¬ (24 : Int) < (fs.length : Int) + add.length - drop.length → raddX D.cells.length add (fs.map rfLie) (keptR drop fs) = none → S.switch add drop D = (S, D, 33)) ∧
    (∀ ts, GoodA fs drop add → GoodDr fs drop → ¬ (24 : Int) < (fs.length : Int) + add.length - drop.length → raddX D.cells.length add (fs.map rfLie) (keptR drop fs) = some ts →
      ∃ T E sg, S.switch add drop D = (T, E, 0) ∧ Good E T sg (lim + 1) ∧ Mat T ts ∧ E.cells.length = D.cells.length ∧ E.armed = D.armed - 1 ∧ (∀ m, Cnt D m → Cnt E (m + 1)) ∧ sg = lenAt T.files) := by
  have hmay : S.may add drop = true ↔ GoodA fs drop add ∧ GoodDr fs drop := by
    unfold Spc.may
    rw [Bool.and_eq_true, goodA_may hm.nums, goodD_may hm.nums]
    exact ⟨fun ⟨a, b⟩ => ⟨b, a⟩, fun ⟨a, b⟩ => ⟨b, a⟩⟩
  have hlen := hm.len
  have hkk := kept_key (drop := drop) hm
  have h := switch_cases hg hlim add drop
  generalize hr : S.switch add drop D = q at *
  have key : ∀ ts, GoodA fs drop add → GoodDr fs drop → raddX D.cells.length add (fs.map rfLie) (keptR drop fs) = some ts → ∃ news, addX D.cells.length (S.turn + 1) add S.lie (S.files.filter fun f => !drop.contains (f.num : Int)) = some ((S.files.filter fun f => !drop.contains (f.num : Int)) ++ news) ∧ ts.map keyR = (addR news (S.files.filter fun f => !drop.contains (f.num : Int))).map keyF := fun ts h1 h2 h3 => by
    rw [hm.lie]
    exact radd_some add _ _ ts _ _ hkk h3
  have knone : raddX D.cells.length add (fs.map rfLie) (keptR drop fs) = none → addX D.cells.length (S.turn + 1) add S.lie (S.files.filter fun f => !drop.contains (f.num : Int)) = none := fun h3 => by
    rw [hm.lie]
    exact radd_none add _ _ _ h3
  cases h with
  | no h e =>
    rw [h] at hmay
    have hno : ¬ (GoodA fs drop add ∧ GoodDr fs drop) := fun hh => by have := hmay.2 hh; cases this
    exact ⟨fun _ => e, fun a b => absurd ⟨a, b⟩ hno, fun a b => absurd ⟨a, b⟩ hno, fun ts a b => absurd ⟨a, b⟩ hno⟩
  | many h h2 e =>
    have hyes := hmay.1 h
    exact ⟨fun hh => absurd hyes hh, fun _ _ _ => e, fun _ _ hh => absurd (by rw [hlen]; exact h2) hh, fun _ _ _ hh => absurd (by rw [hlen]; exact h2) hh⟩
  | full h h2 h3 e =>
    have hyes := hmay.1 h
    refine ⟨fun hh => absurd hyes hh, fun _ _ hh => by rw [hlen] at hh; omega, fun _ _ _ _ => e, fun ts a b _ hh => ?_⟩
    obtain ⟨news, k1, _⟩ := key ts a b hh
    rw [h3] at k1
    cases k1
  | off fs2 h h2 h3 ha2 hn e => exact absurd ha2 ha
  | ok fs2 h h2 h3 ha2 hn e g =>
    have hyes := hmay.1 h
    refine ⟨fun hh => absurd hyes hh, fun _ _ hh => by rw [hlen] at hh; omega, fun _ _ _ hh => (by rw [knone hh] at h3; cases h3), fun ts a b _ hh => ?_⟩
    obtain ⟨news, k1, k2⟩ := key ts a b hh
    rw [h3] at k1
    injection k1 with k1
    rw [e] at g
    obtain ⟨E, e2, g2, c2, l2, a2⟩ := sw_ok hg hlim ha2 h h2 h3
    rw [hr] at e2
    refine ⟨_, E, _, e2, g2, ?_, l2, a2, c2, rfl⟩
    · have hkept : (S.files.filter fun f => !drop.contains (f.num : Int)).Pairwise ltN := List.Pairwise.filter _ hg.fils.ok.nums
      have hnd : ((S.files.filter fun f => !drop.contains (f.num : Int)) ++ news).map (·.num) |>.Nodup := by
        rw [← k1]
        have h5 : ((sortN fs2).map (·.num)).Nodup := List.pairwise_map.2 (hn.ok.nums.imp fun h => Nat.ne_of_lt h)
        exact (((sortN_perm fs2).map _).nodup_iff).1 h5
      have h6 := addR_all news _ hkept hnd
      rw [h6, ← k1] at k2
      exact k2
/-- The document's Append and the code's. -/
theorem app_both {k z : Int} {p : List UInt8} {fs' : List Rf} (hg : Good D S sf lim) (ha : D.armed ≠ 1) (hm : Mat S fs) (h : RAppR fs k p z fs') :
    ∃ T E, S.append k p D = (T, E, z) ∧ Good E T sf lim ∧ Mat T fs' ∧ E.cells.length = D.cells.length ∧ E.armed ≤ D.armed ∧ (D.armed = 0 → E.armed = 0) ∧ (∀ m, Cnt D m → Cnt E (m + 1)) := by
  have hfi := findB_find hm.nums k
  rcases h with ⟨h1, rfl, rfl⟩ | ⟨i, hi, hn, h⟩
  · rw [h1] at hfi
    have h2 : S.find k = none := by cases hh : S.find k with | none => rfl | some f => rw [hh] at hfi; cases hfi
    refine ⟨S, D, by unfold Spc.append; rw [h2], hg, hm, rfl, Nat.le_refl _, id, fun m h => h.mono (by omega)⟩
  · obtain ⟨hj, e1, e2, e3, e4⟩ := hm.at hi
    have hfd : S.find k = some S.files[i] := by rw [← hn, e1]; exact find_is hg (List.getElem_mem hj)
    have hfl : S.files[i].frames.length = fs[i].fr.length := by rw [← e4]; unfold txt; rw [List.length_map]
    rcases h with ⟨h1, rfl, rfl⟩ | ⟨h1, h2, rfl, rfl⟩ | ⟨h1, h2, rfl, fv, A, c, rfl⟩
    · refine ⟨S, D, by unfold Spc.append; rw [hfd]; simp only; rw [if_pos h1], hg, hm, rfl, Nat.le_refl _, id, fun m h => h.mono (by omega)⟩
    · refine ⟨S, D, by unfold Spc.append; rw [hfd]; simp only; rw [if_neg (by omega), if_pos (by omega)], hg, hm, rfl, Nat.le_refl _, id, fun m h => h.mono (by omega)⟩
    · have hle := (hg.file (List.getElem_mem hj)).1
      obtain ⟨E, e, g, c1, l1, a1⟩ := app_ok hg ha hfd h1 (by omega)
      refine ⟨_, E, e, g, ?_, l1, by omega, fun h => by omega, c1⟩
      unfold Mat Spc.grow
      simp only
      apply List.ext_getElem?
      intro j
      rw [List.getElem?_map, List.getElem?_map, List.getElem?_map, List.getElem?_set]
      by_cases hji : i = j
      · subst hji
        rw [if_pos rfl, if_pos hi, List.getElem?_eq_getElem hj, Option.map_some, Option.map_some, Option.map_some, if_pos rfl]
        unfold keyR keyF
        simp only [e1, e2, e3]
        rw [txt_append, e4]
        rfl
      · rw [if_neg hji]
        have h5 := congrArg (fun l => l[j]?) hm
        simp only [List.getElem?_map] at h5
        rw [h5]
        rcases Nat.lt_or_ge j S.files.length with hjl | hjl
        · rw [List.getElem?_eq_getElem hjl, Option.map_some, Option.map_some, Option.map_some]
          have hne : S.files[j].num ≠ S.files[i].num := fun h6 => by
            have h7 := List.pairwise_iff_getElem.1 hg.fils.ok.nums
            rcases Nat.lt_or_gt_of_ne hji with h8 | h8
            · have := h7 i j hj hjl h8; omega
            · have := h7 j i hjl hj h8; omega
          rw [if_neg hne]
        · rw [List.getElem?_eq_none hjl]; rfl
theorem fewer_all : ∀ {fs gs hs : List Fl}, Fewer (lenAt hs) fs gs → (∀ f ∈ fs, lenAt hs f.num = f.frames.length) → gs.map keyF = fs.map keyF
  | [], [], _, _, _ => rfl
  | [], _ :: _, _, h, _ => h.elim
  | _ :: _, [], _, h, _ => h.elim
  | f :: fs, g :: gs, hs, h, hl => by
    obtain ⟨⟨h1, h2, h3, h4, m, h5, h6, h7⟩, h8⟩ := h
    rw [List.map_cons, List.map_cons, fewer_all h8 (fun x hx => hl x (List.mem_cons_of_mem _ hx))]
    rw [hl f List.mem_cons_self] at h5
    rw [List.take_of_length_le h5] at h7
    unfold keyF
    rw [h1, h2, h3, h7]
/-- Opened again. -/
theorem open_both (hg : Good D S sf lim) (hlim : lim + 1 ≤ 1000000000) (hm : Mat S fs) : ∃ T, openX D = (some T, 0) ∧ Good D T sf (lim + 1) ∧ Mat T fs := by
  obtain ⟨gs, h1, h2, h3⟩ := found_again hg hlim
  refine ⟨_, h1, h3, ?_⟩
  have h4 : gs.map keyF = S.files.map keyF := fewer_all h2 fun f hf => by
    unfold lenAt
    rw [find_num hg.fils.ok.nums hf]
  exact hm.trans h4.symm
end
end Go.Proofs.Ytjmapbhgjhlefaa
