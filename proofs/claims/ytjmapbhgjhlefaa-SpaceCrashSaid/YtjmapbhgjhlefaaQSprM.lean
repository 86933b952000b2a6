/- The document's space beside the code's, step by step. -/
import Derived.Test.YtjmapbhgjhlefaaQSprL
import Derived.Test.YtjmapbhgjhlefaaQStep2
namespace Go.Proofs.Ytjmapbhgjhlefaa
open Go.RowKit
set_option linter.unusedVariables false
set_option maxRecDepth 100000

section
variable {w0 w : World} {F : SP} {n N c : Nat} {fs ts : List Rf} {S : Spc} {D : Dk} {add : List Fi} {drop : List Int}
theorem insRf_perm (f : Rf) (l : List Rf) : (insRf f l).Perm (f :: l) := by
  unfold insRf
  refine List.perm_middle.trans ?_
  rw [List.takeWhile_append_dropWhile]
theorem Sat.fr_kept : ∀ (fs : List Rf) {F : SP}, Sat w0 (FrP fs * F) w → Sat w0 (FrP (keptR drop fs) * F) w
  | [], F, h => h
  | f :: fs, F, h => by
    have h1 : Sat w0 (FrP fs * (FrR f * F)) w := h.of (show (FrR f * FrP fs) * F = _ by ac_rfl)
    have h2 := Sat.fr_kept fs h1
    have h3 : keptR drop (f :: fs) = (if (f.num : Int) ∈ drop then [] else [{ f with safe := f.fr.length }]) ++ keptR drop fs := by
      unfold keptR
      rw [List.filter_cons]
      by_cases hd : (f.num : Int) ∈ drop
      · simp [hd]
      · simp [hd]
    rw [h3]
    by_cases hd : (f.num : Int) ∈ drop
    · rw [if_pos hd, List.nil_append]
      exact Sat.right (A := FrR f) (h2.of (by ac_rfl))
    · rw [if_neg hd, List.singleton_append]
      exact h2.of (show _ = (FrR f * FrP (keptR drop fs)) * F by ac_rfl)
theorem Sat.fr_new {f : Rf} (hf : f.fv = .slice none 0 0) (hr : f.fr = []) (h : Sat w0 (FrP ts * F) w) : Sat w0 (FrP (insRf f ts) * F) w := by
  rw [frp_perm (insRf_perm f ts)]
  have h1 := (h.rolNil [] (by simp)).row_nil 39 1
  refine h1.of ?_
  show _ = (FrR f * FrP ts) * F
  unfold FrR
  rw [hf, hr]
  show Row 39 1 (.slice none 0 0) 0 [] * (RoL [] * (FrP ts * F)) = ((Row 39 1 (.slice none 0 0) 0 [] * RoL []) * FrP ts) * F
  ac_rfl
theorem Sat.fr_radd : ∀ (add : List Fi) (lie : List (Nat × Nat)) (ts ts' : List Rf), raddX n add lie ts = some ts' → Sat w0 (FrP ts * F) w → Sat w0 (FrP ts' * F) w
  | [], lie, ts, ts', h, hs => by injection h with h; subst h; exact hs
  | x :: add, lie, ts, ts', h, hs => by
    obtain ⟨a, o, e⟩ : ∃ a o, placeX n x.blocks 2 (sortF lie) = (a, o) := ⟨_, _, rfl⟩
    cases o with
    | false => rw [raddX_no e] at h; cases h
    | true =>
      rw [raddX_yes e] at h
      exact Sat.fr_radd add _ _ ts' h (Sat.fr_new rfl rfl hs)
theorem frp_sy (fs : List Rf) : FrP (fs.map syR) = FrP fs := by
  induction fs with
  | nil => rfl
  | cons f fs ih => show FrR f * FrP (fs.map syR) = FrR f * FrP fs; rw [ih]
theorem mat_sy (h : Mat S fs) : Mat S (fs.map syR) := by
  unfold Mat at h ⊢
  rw [← h, List.map_map]
  rfl
/-- Both spaces, as they stand; power is on for good. -/
structure SpIn (N c : Nat) (D : Dk) (S : Spc) (fs : List Rf) : Prop where
  good : ∃ sf lim, lim ≤ c ∧ Good D S sf lim
  mat : Mat S fs
  len : D.cells.length = N
  armed : D.armed = 0
  cnt : Cnt D c
theorem SpIn.mono {d : Nat} (h : SpIn N c D S fs) (hd : c ≤ d) : SpIn N d D S fs := by
  obtain ⟨sf, lim, h1, h2⟩ := h.good
  exact ⟨⟨sf, lim, by omega, h2⟩, h.mat, h.len, h.armed, h.cnt.mono hd⟩
theorem SpIn.begins (hN : 2 ≤ N ∧ N ≤ 65536) : SpIn N 1 (beginD N) ⟨1, 1, []⟩ [] :=
  ⟨⟨_, 1, Nat.le_refl _, begin_good hN.1 hN.2⟩, rfl, begin_len, begin_armed, begin_cnt⟩
theorem SpIn.lie (h : SpIn N c D S fs) : LieOk N (fs.map rfLie) := by
  obtain ⟨sf, lim, h1, h2⟩ := h.good
  have h3 := h2.fils.ok.lieOk
  rw [h.len] at h3
  rw [← h.mat.lie]
  exact h3
theorem SpIn.few (h : SpIn N c D S fs) : fs.length ≤ 24 := by
  obtain ⟨sf, lim, h1, h2⟩ := h.good
  have := h2.fils.ok.count
  have := h.mat.len
  omega
theorem SpIn.sizes (h : SpIn N c D S fs) : ∀ f ∈ fs, f.fr.length ≤ 65536 ∧ f.blocks ≤ 65536 := fun f hf => by
  obtain ⟨sf, lim, h1, h2⟩ := h.good
  obtain ⟨i, hi, rfl⟩ := List.mem_iff_getElem.1 hf
  obtain ⟨hj, e1, e2, e3, e4⟩ := h.mat.at hi
  have h3 := h2.file (List.getElem_mem hj)
  have h4 : S.files[i].frames.length = fs[i].fr.length := by rw [← e4]; unfold txt; rw [List.length_map]
  omega
theorem SpIn.app {k z : Int} {p : List UInt8} {fs' : List Rf} (h : SpIn N c D S fs) (hr : RAppR fs k p z fs') : ∃ T E, S.append k p D = (T, E, z) ∧ SpIn N (c + 1) E T fs' := by
  obtain ⟨sf, lim, h1, h2⟩ := h.good
  obtain ⟨T, E, e, g, m, l, _, a, cn⟩ := app_both h2 (by rw [h.armed]; omega) h.mat hr
  exact ⟨T, E, e, ⟨sf, lim, by omega, g⟩, m, l.trans h.len, a h.armed, cn _ h.cnt⟩
theorem SpIn.sync (h : SpIn N c D S fs) : D.flush.2 = 0 ∧ SpIn N c D.flush.1 S (fs.map syR) := by
  obtain ⟨sf, lim, h1, h2⟩ := h.good
  have ho := h2.fils.off
  refine ⟨by rw [flush_on D ho], ⟨_, lim, h1, good_flush h2⟩, mat_sy h.mat, (came_flush h2.fils.wf ho).len.trans h.len, by rw [flush_armed ho]; exact h.armed, h.cnt.flush ho⟩
theorem SpIn.opened (h : SpIn N c D S fs) (hc : c + 1 ≤ 1000000000) : ∃ T, openX D = (some T, 0) ∧ SpIn N (c + 1) D T fs := by
  obtain ⟨sf, lim, h1, h2⟩ := h.good
  obtain ⟨T, e, g, m⟩ := open_both h2 (by omega) h.mat
  exact ⟨T, e, ⟨sf, lim + 1, by omega, g⟩, m, h.len, h.armed, h.cnt.mono (by omega)⟩
/-- Switch: the errors. -/
theorem SpIn.sw_no {z : Int} (h : SpIn N c D S fs) (hc : c + 1 ≤ 1000000000) (hz : (z = 31 ∧ ¬ (GoodA fs drop add ∧ GoodDr fs drop)) ∨ (GoodA fs drop add ∧ GoodDr fs drop ∧ (24 : Int) < (fs.length : Int) + add.length - drop.length ∧ z = 32) ∨
     (GoodA fs drop add ∧ GoodDr fs drop ∧ ¬ (24 : Int) < (fs.length : Int) + add.length - drop.length ∧ raddX N add (fs.map rfLie) (keptR drop fs) = none ∧ z = 33)) : S.switch add drop D = (S, D, z) := by
  obtain ⟨sf, lim, h1, h2⟩ := h.good
  obtain ⟨p1, p2, p3, _⟩ := sw_both (add := add) (drop := drop) h2 (by omega) (by rw [h.armed]; omega) h.mat
  rcases hz with ⟨rfl, q⟩ | ⟨a, b, q, rfl⟩ | ⟨a, b, q, q2, rfl⟩
  · exact p1 q
  · exact p2 a b q
  · exact p3 a b q (by rw [h.len]; exact q2)
theorem SpIn.sw_yes (h : SpIn N c D S fs) (hc : c + 1 ≤ 1000000000) (ha : GoodA fs drop add) (hb : GoodDr fs drop) (h24 : ¬ (24 : Int) < (fs.length : Int) + add.length - drop.length) (hr : raddX N add (fs.map rfLie) (keptR drop fs) = some ts) :
    ∃ T E, S.switch add drop D = (T, E, 0) ∧ SpIn N (c + 1) E T ts := by
  obtain ⟨sf, lim, h1, h2⟩ := h.good
  obtain ⟨_, _, _, p4⟩ := sw_both (add := add) (drop := drop) h2 (by omega) (by rw [h.armed]; omega) h.mat
  obtain ⟨T, E, sg, e, g, m, l, a, cn, _⟩ := p4 ts ha hb h24 (by rw [h.len]; exact hr)
  exact ⟨T, E, e, ⟨sg, lim + 1, by omega, g⟩, m, l.trans h.len, by rw [a, h.armed], cn _ h.cnt⟩
theorem StIn.new {W : World} {x : StD} (h : StIn w x) (k : Chg No w W) : StIn W x :=
  ⟨h.did, h.n, h.k, ⟨h.add.1.new k, h.add.2⟩, ⟨h.drop.1.new k, h.drop.2⟩, ⟨h.bytes.1.new k, h.bytes.2⟩, ⟨h.keep.1.new k, h.keep.2⟩, h.torn, h.cut⟩
theorem fisM_len (l : List Fi) : (l.flatMap fiI).length = l.length * 3 := by
  induction l with
  | nil => rfl
  | cons f l ih => rw [List.flatMap_cons, List.length_append, ih, List.length_cons]; show 3 + _ = _; omega
theorem fisM_ones (l : List Fi) : ∀ u ∈ l.flatMap fiI, u.oneCell' = true := fun u hu => by
  obtain ⟨f, hf, hu⟩ := List.mem_flatMap.1 hu
  unfold fiI at hu
  simp at hu
  rcases hu with rfl | rfl | rfl <;> rfl
/-- Lend and Back. -/
theorem lendX {W : World} (A : Option Addr) (c : Nat) (l : List UInt8) (h : Sat w0 F W) (hr : Rd W A l) (hl : l.length ≤ 140737488355328) : Calls Try.prog 37 #[.slice A l.length c] W fun e w' => ∃ g, e = .returned (.slice (some ⟨g, 0, none⟩) l.length (l.length + 2)) ∧ Sat w0 (Pt g 5 (Marked l) * F) w' := by
  refine (lend_any A c l W hr hl).mono ?_
  rintro e w' ⟨g, rfl, h1, h2, h3⟩
  exact ⟨g, rfl, h.take h3 h1 h2⟩
theorem backX {W : World} (g : Nat) (A : Option Addr) (c : Nat) (l : List UInt8) (h : Sat w0 (Pt g 5 (Marked l) * F) W) (hr : Rd W A l) (hl : l.length ≤ 140737488355328) : Calls Try.prog 39 #[.slice (some ⟨g, 0, none⟩) l.length (l.length + 2), .slice A l.length c] W fun e w' => e = .returned (.bool true) ∧ Sat w0 F w' := by
  refine (back_yes g c A l W h.at hr hl).mono ?_
  rintro e w' ⟨rfl, k⟩
  exact ⟨rfl, h.lose k (Nat.lt_of_lt_of_le h.lt k.size)⟩
end
end Go.Proofs.Ytjmapbhgjhlefaa
