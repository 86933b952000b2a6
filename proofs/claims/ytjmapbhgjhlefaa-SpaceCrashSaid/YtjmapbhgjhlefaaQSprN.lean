/- SpaceCrash: the plain laws. -/
import Derived.Test.YtjmapbhgjhlefaaQSprV
import Derived.Test.YtjmapbhgjhlefaaQSprM
import Derived.Test.YtjmapbhgjhlefaaQSpSwitch
namespace Go.Proofs.Ytjmapbhgjhlefaa
open Go.RowKit
set_option linter.unusedVariables false
set_option maxRecDepth 100000

section
variable {sf : Nat → Nat} {N c : Nat} {D : Dk} {S T : Spc} {fs us : List Rf} {lim : Nat}
/-- What was found behind a crash is a beginning of each file. -/
theorem fewer_stand : ∀ {Fs gs : List Fl} {fs : List Rf}, Fewer sf Fs gs → fs.map keyR = Fs.map keyF → (∀ f ∈ fs, f.safe ≤ sf f.num) → gs.map lieOf = fs.map lie3 ∧ ∀ i (hi : i < fs.length) (hj : i < gs.length), Beg gs[i].frames fs[i]
  | [], [], [], _, _, _ => ⟨rfl, fun i hi _ => absurd hi (by simp)⟩
  | [], [], _ :: _, _, h, _ => by cases h
  | [], _ :: _, _, h, _, _ => h.elim
  | _ :: _, [], _, h, _, _ => h.elim
  | _ :: _, _ :: _, [], _, h, _ => by cases h
  | F :: Fs, g :: gs, f :: fs, h, hk, hs => by
    obtain ⟨⟨h1, h2, h3, h4, m, h5, h6, h7⟩, h8⟩ := h
    rw [List.map_cons, List.map_cons] at hk
    injection hk with hk1 hk2
    obtain ⟨i1, i2⟩ := fewer_stand h8 hk2 (fun x hx => hs x (List.mem_cons_of_mem _ hx))
    unfold keyR keyF at hk1
    injection hk1 with e1 hk1
    injection hk1 with e2 hk1
    injection hk1 with e3 e4
    have hsf := hs f List.mem_cons_self
    rw [e1] at hsf
    refine ⟨?_, fun i hi hj => ?_⟩
    · rw [List.map_cons, List.map_cons, i1]
      unfold lieOf lie3
      rw [h1, h2, h3, e1, e2, e3]
    · cases i with
      | zero =>
        show Beg g.frames f
        refine ⟨?_, ?_⟩
        · rw [h7, List.length_take]; omega
        · rw [h7, e4, List.length_take, Nat.min_eq_left h6]
      | succ i =>
        have hi' : i < fs.length := by simpa using hi
        have hj' : i < gs.length := by simpa using hj
        show Beg gs[i].frames fs[i]
        exact i2 i hi' hj'
/-- Both spaces while power is on: what the document calls safe is safe. -/
structure CrIn (N c : Nat) (D : Dk) (S : Spc) (fs : List Rf) : Prop where
  good : ∃ sf lim, lim ≤ c ∧ Good D S sf lim ∧ ∀ f ∈ fs, f.safe ≤ sf f.num
  mat : Mat S fs
  len : D.cells.length = N
  cnt : Cnt D c
  armed : D.armed ≤ 9223372036854775807
/-- Behind a crash. -/
def CrOff (c : Nat) (D : Dk) (fs us : List Rf) : Prop := ∀ (keep : List Bool) (torn bytes : Int), ∃ T, openX (D.crash keep torn bytes) = (some T, 0) ∧ (∃ lim, lim ≤ c ∧ Good (D.crash keep torn bytes) T (lenAt T.files) lim) ∧ (Stand T fs ∨ Stand T us)
theorem good_crash (hg : Good D S sf lim) (hlim : lim + 1 ≤ 1000000000) (hm : Mat S fs) (hs : ∀ f ∈ fs, f.safe ≤ sf f.num) (keep : List Bool) (torn bytes : Int) : ∃ T, openX (D.crash keep torn bytes) = (some T, 0) ∧ Good (D.crash keep torn bytes) T (lenAt T.files) (lim + 1) ∧ Stand T fs := by
  obtain ⟨gs, e1, e2, e3⟩ := found_crash hg hlim (came_crash (keep := keep) (torn := torn) (bytes := bytes) hg.fils.wf)
  obtain ⟨a, b⟩ := fewer_stand e2 hm hs
  exact ⟨_, e1, e3, ⟨a, b⟩⟩
theorem CrIn.off (h : CrIn N c D S fs) (hc : c + 1 ≤ 1000000000) (us : List Rf) : CrOff (c + 1) D fs us := fun keep torn bytes => by
  obtain ⟨sf, lim, h1, h2, h3⟩ := h.good
  obtain ⟨T, a, b, d⟩ := good_crash h2 (by omega) h.mat h3 keep torn bytes
  exact ⟨T, a, ⟨_, by omega, b⟩, .inl d⟩
/-- What stands found is what there is now. -/
theorem CrIn.found {E : Dk} {ts : List Rf} {lim : Nat} (hg : Good E T (lenAt T.files) lim) (hl : lim ≤ c) (hm : Mat T ts) (hs : ∀ f ∈ ts, f.safe = f.fr.length) (hn : E.cells.length = N) (hc : Cnt E c) (ha : E.armed = 0) : CrIn N c E T ts :=
  ⟨⟨_, lim, hl, hg, fun f hf => by
    obtain ⟨i, hi, rfl⟩ := List.mem_iff_getElem.1 hf
    obtain ⟨hj, e1, e2, e3, e4⟩ := hm.at hi
    rw [hs _ hf, e1]
    unfold lenAt
    rw [find_num hg.fils.ok.nums (List.getElem_mem hj)]
    show _ ≤ T.files[i].frames.length
    rw [← e4]
    unfold txt
    rw [List.length_map]
    exact Nat.le_refl _⟩, hm, hn, hc, by rw [ha]; omega⟩
end
end Go.Proofs.Ytjmapbhgjhlefaa
