/- tidingslaw02.BlockCrash: the plain law. -/
import Derived.Test.YtiimlbkccoofmaaBlkSafe
namespace Go.Proofs.Ytiimlbkccoofmaa
open Go.RowKit
set_option linter.unusedVariables false

/-- What each block is to say. -/
def expC (was : List Int) (filled : List Bool) (ripped : Int) (k : Nat) : List UInt8 × Bool :=
  if (k : Int) = ripped then ([], true) else if filled.getD k false then (fill (was.getD k 0), false) else ([], false)
structure Cr1 (n i : Nat) (was : List Int) (filled : List Bool) (D : Dk) : Prop where
  lw : was.length = n
  lf : filled.length = n
  len : D.cells.length = n
  say : ∀ k, k < n → (D.pend.foldl lay D.cells)[k]? = some (expC was filled (-1) k)
  pend : D.pend.length = i
  writes : D.writes = i
  armed : D.armed = 0
  off : D.off = false
theorem lay_len : ∀ (ps : List (Nat × List UInt8)) (cells : List (List UInt8 × Bool)), (ps.foldl lay cells).length = cells.length
  | [], _ => rfl
  | p :: ps, cells => by rw [List.foldl_cons, lay_len ps]; exact List.length_set ..
theorem getD_set_same {α : Type} {l : List α} {k : Nat} (h : k < l.length) (x d : α) : (l.set k x).getD k d = x := by simp [List.getD, h]
theorem getD_set_other {α : Type} {l : List α} {k j : Nat} (h : k ≠ j) (x d : α) : (l.set k x).getD j d = l.getD j d := by simp [List.getD, List.getElem?_set_ne h]
theorem expC_set {was : List Int} {filled : List Bool} {ripped : Int} {n k : Nat} (hw : was.length = n) (hf : filled.length = n) (hk : k < n) (v : Int) (j : Nat) :
    expC (was.set k v) (filled.set k true) (if ripped = k then -1 else ripped) j = if k = j then (fill v, false) else expC was filled ripped j := by
  unfold expC
  by_cases e : k = j
  · subst e
    rw [if_pos rfl, getD_set_same (by omega), getD_set_same (by omega)]
    by_cases h : ripped = (k : Int)
    · rw [if_pos h, if_neg (by omega)]; rfl
    · rw [if_neg h, if_neg (fun e => h e.symm)]; rfl
  · rw [if_neg e, getD_set_other e, getD_set_other e]
    by_cases h : ripped = (k : Int)
    · rw [if_pos h, if_neg (show ¬ (j : Int) = -1 by omega), if_neg (show ¬ (j : Int) = ripped by omega)]
    · rw [if_neg h]
theorem Cr1.start (n : Nat) : Cr1 n 0 (List.replicate n 0) (List.replicate n false) (Dk.new n) := by
  refine ⟨by simp, by simp, by simp [Dk.new], fun k hk => ?_, rfl, rfl, rfl, rfl⟩
  show (List.replicate n _)[k]? = _
  have e1 : (List.replicate n false).getD k false = false := by simp [List.getD, hk]
  unfold expC
  rw [if_neg (by omega), e1, List.getElem?_replicate, if_pos hk]
  rfl
theorem Cr1.step {n i : Nat} {was : List Int} {filled : List Bool} {D : Dk} (h : Cr1 n i was filled D) {k : Nat} (hk : k < n) (v : Int) :
    ∃ D', D.write k (fill v) = (D', 0) ∧ Cr1 n (i + 1) (was.set k v) (filled.set k true) D' := by
  have ha : D.ask k = 0 := Dk.ask_ok h.off (by omega) (by rw [h.len]; omega)
  refine ⟨D.took k (fill v), ?_, by rw [List.length_set]; exact h.lw, by rw [List.length_set]; exact h.lf, h.len, fun j hj => ?_, ?_, ?_, ?_, ?_⟩
  · unfold Dk.write
    rw [if_pos ha, if_pos (length_fill _), if_neg (by rw [h.armed]; decide)]; rfl
  · show ((D.pend ++ [(k, fill v)]).foldl lay D.cells)[j]? = _
    have e := expC_set (ripped := -1) h.lw h.lf hk v j
    rw [if_neg (by omega)] at e
    rw [e, List.foldl_append, List.foldl_cons, List.foldl_nil]
    unfold lay
    rw [List.getElem?_set]
    by_cases hkj : k = j
    · rw [if_pos hkj, if_pos hkj, if_pos (by show k < (D.pend.foldl lay D.cells).length; rw [lay_len, h.len]; exact hk)]
    · rw [if_neg hkj, if_neg hkj]; exact h.say j hj
  · show (D.pend ++ [_]).length = _; rw [List.length_append, h.pend]; rfl
  · show D.writes + 1 = _; rw [h.writes]
  · show D.armed - 1 = 0; rw [h.armed]
  · show (if D.armed = 1 then true else D.off) = false; rw [if_neg (by rw [h.armed]; decide)]; exact h.off
structure Cr2 (keep : List Bool) (torn bytes : Int) (n m i : Nat) (was : List Int) (filled : List Bool) (ripped : Int) (D : Dk) : Prop where
  lw : was.length = n
  lf : filled.length = n
  len : D.cells.length = n
  say : ∀ k, k < n → (onAll keep torn bytes D.cells D.pend)[k]? = some (expC was filled ripped k)
  pend : D.pend.length = i
  writes : D.writes = m + i
  armed : D.armed = 0
  off : D.off = false
  rip : ripped = -1 ∨ (torn < i ∧ 0 ≤ ripped ∧ ripped < n)
theorem Cr1.flush {n i : Nat} {was : List Int} {filled : List Bool} {D : Dk} (h : Cr1 n i was filled D) (keep : List Bool) (torn bytes : Int) :
    ∃ D', D.flush = (D', 0) ∧ Cr2 keep torn bytes n i 0 was filled (-1) D' := by
  refine ⟨{ D with cells := D.pend.foldl lay D.cells, pend := [] }, ?_, h.lw, h.lf, ?_, h.say, rfl, ?_, h.armed, h.off, .inl rfl⟩
  · unfold Dk.flush; rw [if_neg (by rw [h.off]; decide)]
  · show (D.pend.foldl lay D.cells).length = n; rw [lay_len]; exact h.len
  · show D.writes = i + 0; rw [h.writes]; rfl
theorem onAll_snoc (keep : List Bool) (torn bytes : Int) (cells : List (List UInt8 × Bool)) (ps : List (Nat × List UInt8)) (p : Nat × List UInt8) :
    onAll keep torn bytes cells (ps ++ [p]) = onStep keep torn bytes (onAll keep torn bytes cells ps) (p, ps.length) := by
  unfold onAll
  rw [List.zipIdx_append, List.foldl_append]
  simp
theorem onAll_len (keep : List Bool) (torn bytes : Int) (cells : List (List UInt8 × Bool)) (ps : List (Nat × List UInt8)) : (onAll keep torn bytes cells ps).length = cells.length := on_len ..
/-- One write more that is pending: what becomes of it when power comes again. -/
theorem Cr2.step {keep : List Bool} {torn bytes : Int} {n m i : Nat} {was : List Int} {filled : List Bool} {ripped : Int} {D : Dk} (h : Cr2 keep torn bytes n m i was filled ripped D) {k : Nat} (hk : k < n) (v : Int) :
    ∃ D', D.write k (fill v) = (D', 0) ∧
      (tornB torn bytes i = true → Cr2 keep torn bytes n m (i + 1) was filled k D') ∧
      (tornB torn bytes i = false → keepB keep i = true → Cr2 keep torn bytes n m (i + 1) (was.set k v) (filled.set k true) (if ripped = k then -1 else ripped) D') ∧
      (tornB torn bytes i = false → keepB keep i = false → Cr2 keep torn bytes n m (i + 1) was filled ripped D') := by
  have ha : D.ask k = 0 := Dk.ask_ok h.off (by omega) (by rw [h.len]; omega)
  have hw : D.write k (fill v) = (D.took k (fill v), 0) := by
    unfold Dk.write
    rw [if_pos ha, if_pos (length_fill _), if_neg (by rw [h.armed]; decide)]; rfl
  have hl : (onAll keep torn bytes D.cells D.pend).length = n := (onAll_len ..).trans h.len
  have e : onAll keep torn bytes (D.took k (fill v)).cells (D.took k (fill v)).pend = onStep keep torn bytes (onAll keep torn bytes D.cells D.pend) ((k, fill v), i) := by
    show onAll keep torn bytes D.cells (D.pend ++ [(k, fill v)]) = _
    rw [onAll_snoc, h.pend]
  have hp : (D.took k (fill v)).pend.length = i + 1 := by show (D.pend ++ [_]).length = _; rw [List.length_append, h.pend]; rfl
  have hwr : (D.took k (fill v)).writes = m + (i + 1) := by show D.writes + 1 = _; rw [h.writes]; omega
  have har : (D.took k (fill v)).armed = 0 := by show D.armed - 1 = 0; rw [h.armed]
  have hof : (D.took k (fill v)).off = false := by show (if D.armed = 1 then true else D.off) = false; rw [if_neg (by rw [h.armed]; decide)]; exact h.off
  refine ⟨_, hw, fun ht => ?_, fun ht hkp => ?_, fun ht hkp => ?_⟩
  · have ht' := of_decide_eq_true (show decide _ = true from ht)
    refine ⟨h.lw, h.lf, h.len, fun j hj => ?_, hp, hwr, har, hof, .inr ⟨by omega, by omega, by omega⟩⟩
    rw [e]
    unfold onStep
    dsimp only
    rw [if_pos ht, List.getElem?_set]
    by_cases hkj : k = j
    · rw [if_pos hkj, if_pos (by rw [hl]; exact hk)]
      unfold expC
      rw [if_pos (by omega)]
    · rw [if_neg hkj, h.say j hj]
      unfold expC
      have hr : ripped = -1 := by
        rcases h.rip with h1 | h1
        · exact h1
        · omega
      rw [hr, if_neg (show ¬ (j : Int) = -1 by omega), if_neg (show ¬ (j : Int) = (k : Int) by omega)]
  · refine ⟨by rw [List.length_set]; exact h.lw, by rw [List.length_set]; exact h.lf, h.len, fun j hj => ?_, hp, hwr, har, hof, ?_⟩
    · rw [e, expC_set h.lw h.lf hk v j]
      unfold onStep lay
      dsimp only
      rw [if_neg (by rw [ht]; decide), if_pos hkp, List.getElem?_set]
      by_cases hkj : k = j
      · rw [if_pos hkj, if_pos hkj, if_pos (by rw [hl]; exact hk)]
      · rw [if_neg hkj, if_neg hkj]; exact h.say j hj
    · by_cases hr : ripped = (k : Int)
      · rw [if_pos hr]; exact .inl rfl
      · rw [if_neg hr]
        rcases h.rip with h1 | h1
        · exact .inl h1
        · exact .inr ⟨by omega, h1.2⟩
  · refine ⟨h.lw, h.lf, h.len, fun j hj => ?_, hp, hwr, har, hof, ?_⟩
    · rw [e]
      unfold onStep
      dsimp only
      rw [if_neg (by rw [ht]; decide), if_neg (by rw [hkp]; decide)]
      exact h.say j hj
    · rcases h.rip with h1 | h1
      · exact .inl h1
      · exact .inr ⟨by omega, h1.2⟩
/-- The disk behind the crash. -/
structure Cr3 (n : Nat) (was : List Int) (filled : List Bool) (ripped : Int) (D : Dk) : Prop where
  lw : was.length = n
  lf : filled.length = n
  len : D.cells.length = n
  say : ∀ k, k < n → D.cells[k]? = some (expC was filled ripped k)
  pend : D.pend = []
  off : D.off = false
theorem Cr2.on {keep : List Bool} {torn bytes : Int} {n m i : Nat} {was : List Int} {filled : List Bool} {ripped : Int} {D : Dk} (h : Cr2 keep torn bytes n m i was filled ripped D) :
    Cr3 n was filled ripped (({ D with off := true } : Dk).on keep torn bytes) :=
  ⟨h.lw, h.lf, (onAll_len ..).trans h.len, h.say, rfl, rfl⟩
theorem Cr3.read {n : Nat} {was : List Int} {filled : List Bool} {ripped : Int} {D : Dk} (h : Cr3 n was filled ripped D) {k : Nat} (hk : k < n) :
    D.read k = if (k : Int) = ripped then ([], 24) else if filled.getD k false then (fill (was.getD k 0), 0) else (List.replicate 512 0, 0) := by
  have ha : D.ask k = 0 := Dk.ask_ok h.off (by omega) (by rw [h.len]; omega)
  have hl : D.last k = none := by unfold Dk.last; rw [h.pend]; rfl
  unfold Dk.read
  rw [if_pos ha, hl, Int.toNat_natCast, h.say k hk]
  unfold expC
  by_cases h1 : (k : Int) = ripped
  · rw [if_pos h1, if_pos h1]; rfl
  · rw [if_neg h1, if_neg h1]
    by_cases h2 : filled.getD k false = true
    · rw [if_pos h2, if_pos h2]
      show (if false = true then _ else if fill _ = [] then _ else _) = _
      rw [if_neg (by decide), if_neg (fill_ne _)]
    · rw [if_neg h2, if_neg h2]; rfl
theorem off_read (D : Dk) (i : Int) (h : D.off = true) : D.read i = ([], 21) := by
  have ha : D.ask i = 21 := by unfold Dk.ask; rw [if_pos h]
  unfold Dk.read
  rw [ha, if_neg (by decide)]
end Go.Proofs.Ytiimlbkccoofmaa
