/- What Append does where there is room, plainly. -/
import Derived.Test.YtjmapbhgjhlefaaQWalRead
namespace Go.Proofs.Ytjmapbhgjhlefaa
open Go.RowKit
set_option linter.unusedVariables false
set_option maxRecDepth 100000

/-- Frames behind those of a file. -/
def Spc.growL (S : Spc) (k : Nat) (ps : List (List UInt8)) : Spc := { S with files := S.files.map fun g => if g.num = k then { g with frames := g.frames ++ ps } else g }
theorem growL_nil (S : Spc) (k : Nat) : S.growL k [] = S := by
  unfold Spc.growL
  have h : (fun g : Fl => if g.num = k then { g with frames := g.frames ++ [] } else g) = id := by
    funext g
    split
    · rw [List.append_nil]; rfl
    · rfl
  rw [h, List.map_id]
theorem growL_grow (S : Spc) (k : Nat) (p : List UInt8) (ps : List (List UInt8)) : (S.grow k p).growL k ps = S.growL k (p :: ps) := by
  unfold Spc.growL Spc.grow
  simp only [List.map_map]
  congr 1
  apply List.map_congr_left
  intro g _
  simp only [Function.comp]
  by_cases h : g.num = k
  · simp [h]
  · simp [h]
section
variable {D D' : Dk} {S S' : Spc} {sf : Nat → Nat} {lim m k : Nat} {f : Fl} {p : List UInt8} {ps : List (List UInt8)}
theorem find_growL (n : Int) : (S.growL k ps).find n = (S.find n).map fun g => if g.num = k then { g with frames := g.frames ++ ps } else g := by
  unfold Spc.growL Spc.find
  simp only
  rw [List.find?_map]
  congr 2
  funext g
  simp only [Function.comp]
  split <;> rfl
theorem grow_is (S : Spc) (k : Nat) (p : List UInt8) : S.grow k p = S.growL k [p] := rfl
/-- All frames have room, the power stays on. -/
theorem apps_yes {n : Int} : ∀ (ps : List (List UInt8)) {S : Spc} {D : Dk} {f : Fl}, Good D S sf lim → S.find n = some f → (∀ p ∈ ps, p.length ≤ 480) → f.frames.length + ps.length ≤ f.blocks → (D.armed = 0 ∨ ps.length < D.armed) →
    ∃ D', Spc.appsL n ps S D = (S.growL f.num ps, D', 0) ∧ Good D' (S.growL f.num ps) sf lim ∧ (∀ m, Cnt D m → Cnt D' (m + ps.length)) ∧ D'.cells.length = D.cells.length ∧ D'.armed = D.armed - ps.length
  | [], S, D, f, hg, hf, hp, hl, ha => ⟨D, by rw [growL_nil]; rfl, by rw [growL_nil]; exact hg, fun m h => h, rfl, rfl⟩
  | p :: ps, S, D, f, hg, hf, hp, hl, ha => by
    rw [List.length_cons] at hl ha
    obtain ⟨D1, e1, g1, c1, l1, a1⟩ := app_ok hg (n := n) (p := p) (by omega) hf (hp p List.mem_cons_self) (by omega)
    have h2 : (S.grow f.num p).find n = some { f with frames := f.frames ++ [p] } := by
      rw [grow_is, find_growL, hf]
      simp
    obtain ⟨D2, e2, g2, c2, l2, a2⟩ := apps_yes ps g1 h2 (fun q hq => hp q (List.mem_cons_of_mem _ hq)) (by simp only [List.length_append, List.length_singleton]; omega) (by omega)
    simp only at e2 g2
    rw [growL_grow] at e2 g2
    refine ⟨D2, ?_, g2, fun m h => ?_, l2.trans l1, by rw [a2, a1, List.length_cons]; omega⟩
    · rw [appsL_cons, e1]
      exact (if_pos rfl).trans e2
    · have := c2 _ (c1 m h)
      rw [List.length_cons]
      exact this.mono (by omega)
/-- A batch that has room. -/
theorem wapp_yes {n : Int} {b : List UInt8} (hg : Good D S sf lim) (hf : S.find n = some f) (hb : b.length ≤ 262144) (hl : f.frames.length + needN b.length ≤ f.blocks) (ha : D.armed = 0) :
    ∃ D', S.wapp n b D = (S.growL f.num (split b), D', 0) ∧ Good D' (S.growL f.num (split b)) sf lim ∧ (∀ m, Cnt D m → Cnt D' (m + 548)) ∧ D'.cells.length = D.cells.length ∧ D'.armed = 0 := by
  have h1 := split_len b
  have h2 := needN_le b.length
  obtain ⟨D', e, g, c, l, a⟩ := apps_yes (split b) hg hf (fun p hp => split_each hp) (by omega) (.inl ha)
  refine ⟨D', ?_, g, fun m h => (c m h).mono (by omega), l, by rw [a, ha]; omega⟩
  rw [← e]
  unfold Spc.wapp
  rw [hf]
  simp only
  rw [if_neg (by omega), if_neg (by omega)]
/-- A batch that has none. -/
theorem wapp_no {n : Int} {b : List UInt8} (hf : S.find n = some f) (hb : b.length ≤ 262144) (hl : f.blocks < f.frames.length + needN b.length) : S.wapp n b D = (S, D, 41) := by
  unfold Spc.wapp
  rw [hf]
  simp only
  rw [if_neg (by omega), if_pos (by omega)]
theorem wapp_none {n : Int} {b : List UInt8} (hf : S.find n = none) : S.wapp n b D = (S, D, 34) := by
  unfold Spc.wapp
  rw [hf]
end
/-- What the batches' frames tell. -/
theorem whole_splits : ∀ (bs : List (List UInt8)), (∀ b ∈ bs, b.length ≤ 262144) → whole (bs.flatMap split) = bs
  | [], _ => rfl
  | b :: bs, h => by
    have ih := whole_splits bs fun c hc => h c (List.mem_cons_of_mem _ hc)
    unfold whole at ih ⊢
    rw [List.flatMap_cons, wholeFrom_split b (h b List.mem_cons_self), ih]
end Go.Proofs.Ytjmapbhgjhlefaa
