/- A region that draws its order and whose last operation (number z, which waits for all that read) writes what the others have read: S is asked until that one comes up. Nothing here is of the program. -/
import Derived.Test.YtaoenbjfkahdjaaQ06
namespace Go.Proofs.Ytaoenbjfkahdjaa
open Go.RowKit
set_option linter.unusedVariables false
set_option maxRecDepth 100000

section
variable {P : Program} {ops : Array Oper} {Q : Exit → Act → World → Prop} {md : Region.Mode} {S : World → Prop} {z : Nat}
/-- Whatever order comes; S holds behind each operation but z. -/
def AnyZ (P : Program) (md : Region.Mode) (ops : Array Oper) (Q : Exit → Act → World → Prop) (S : World → Prop) (z : Nat) : Nat → Array Bool → Act → World → Prop
  | 0, L, a, w => Region.ready md ops L = [] ∧ Q .normal a w
  | n + 1, L, a, w => (Region.ready md ops L = [] → Q .normal a w) ∧ ∀ i ∈ Region.ready md ops L, wpOp P ops Q i (fun a' w' => (i = z ∨ S w') ∧ AnyZ P md ops Q S z n (L.setIfInBounds i true) a' w') a w
theorem AnyZ.any : ∀ (n : Nat) (L : Array Bool) (a : Act) (w : World), AnyZ P md ops Q S z n L a w → wpAny P md ops Q n L a w
  | 0, _, _, _, h => h
  | n + 1, _, _, _, h => ⟨h.1, fun i hi => wpOp_mono (fun a' w' h' => AnyZ.any n _ a' w' h'.2) (h.2 i hi)⟩
/-- z waits for i. -/
def waits (md : Region.Mode) (ops : Array Oper) (z i : Nat) : Bool := match ops[z]? with
  | some o => o.after.toList.any fun e => Region.binds md e && e.on == i
  | none => true
theorem waits_spec {i : Nat} (h : waits md ops z i = true) {L : Array Bool} (hl : L.getD i true = false) : z ∉ Region.ready md ops L := fun hz => by
  obtain ⟨_, o, ho, hall⟩ := mem_ready.1 hz
  unfold waits at h
  rw [ho] at h
  simp only [List.any_eq_true, Bool.and_eq_true, beq_iff_eq] at h
  obtain ⟨e, he, hb, rfl⟩ := h
  have h1 := hall e (by simpa using he) hb
  rcases Nat.lt_or_ge e.on L.size with q | q
  · simp [q] at hl h1
    rw [hl] at h1
    cases h1
  · simp [Array.getElem?_eq_none q] at h1
theorem AnyZ.first {i : Nat} {oi : Oper} {v : Value} (hi : ops[i]? = some oi) (hsel : ∀ (j : Nat) (o : Oper) cs b, ops[j]? = some o → o.op ≠ .select cs b) (hQ : ∀ c a w, Q (.panic c) (a.put oi.dst v) w → Q (.panic c) a w)
    (hz : waits md ops z i = true) : ∀ (n : Nat) (L : Array Bool) (a : Act) (w : World),
      (∀ j oj, ops[j]? = some oj → j ≠ i → L.getD j true = false → (∀ e ∈ oj.after, Region.binds md e = true → e.on ≠ i) → oi.apart ops oj = true) →
      i ∈ Region.ready md ops L → YieldsIf P ops S oi v a → S w → AnyZ P md ops Q S z n (L.setIfInBounds i true) (a.put oi.dst v) w → AnyZ P md ops Q S z (n + 1) L a w
  | 0, L, a, w, hf, hr, hy, hS, H => ⟨fun h => absurd hr (by rw [h]; simp), fun j hj => by
    by_cases e : j = i
    · subst e; exact hy.wpOp hi hS ⟨.inr hS, H⟩
    · exact absurd (ready_mono hj e) (by rw [H.1]; simp)⟩
  | n + 1, L, a, w, hf, hr, hy, hS, H => ⟨fun h => absurd hr (by rw [h]; simp), fun j hj => by
    by_cases e : j = i
    · subst e; exact hy.wpOp hi hS ⟨.inr hS, H⟩
    · have hun := (mem_ready.1 hr).1
      have hjz : j ≠ z := fun q => waits_spec hz hun (q ▸ hj)
      obtain ⟨hju, oj, hoj, hall⟩ := mem_ready.1 hj
      have hno : ∀ x ∈ oj.after, Region.binds md x = true → x.on ≠ i := fun x hx hb q => by
        have h1 := hall x hx hb
        rw [q] at h1
        rcases Nat.lt_or_ge i L.size with t | t
        · simp [t] at hun h1
          rw [hun] at h1
          cases h1
        · simp [Array.getElem?_eq_none t] at h1
      refine wpOp_mono (fun a' w' h3 => ⟨h3.2.1, AnyZ.first hi hsel hQ hz n _ a' w' (fun k ok hk hki hu hn => hf k ok hk hki ?_ hn) (ready_mono hr (Ne.symm e)) h3.1 (h3.2.1.resolve_left hjz) ?_⟩)
        (wpOp_putIf hoj (hf j oj hoj e hju hno) (fun cs b => hsel i oi cs b hi) (fun cs b => hsel j oj cs b hoj) hQ hy (H.2 j (ready_mono hj e)))
      · by_cases q : j = k
        · subst q; exact hju
        · rwa [getD_set_ne true q] at hu
      · rw [Array.setIfInBounds_comm _ _ e]
        exact h3.2.2⟩
variable {l : List Oper}
/-- An operation that only reads. -/
theorem rgnz_take {i : Nat} {oi : Oper} {v : Value} {fuel : Nat} {listed : Array Bool} {a : Act} {w : World} (hi : l[i]? = some oi)
    (hs : Region.noSelect l.toArray = true) (hf : Region.free md l.toArray listed i = true) (hr : (Region.ready md l.toArray listed).contains i = true) (hz : waits md l.toArray z i = true)
    (hQ : ∀ c a w, Q (.panic c) (a.put oi.dst v) w → Q (.panic c) a w) (hy : Region.wanted oi (yielded l.toArray a.tmps) = true) (hy2 : ∀ w, S w → (execOp a.eval oi).run P w = .ok (.value v) w) (hS : S w)
    (h : AnyZ P md l.toArray Q S z fuel (listed.setIfInBounds i true) (a.put oi.dst v) w) : AnyZ P md l.toArray Q S z (fuel + 1) listed a w :=
  have hi2 : l.toArray[i]? = some oi := by simpa using hi
  AnyZ.first hi2 (Region.noSelect_spec hs) hQ hz fuel listed a w (Region.free_spec hi2 hf) (by simpa using hr) (.inl ⟨hy, hy2⟩) hS h
/-- One that changes the world. -/
theorem rgnz_call {i : Nat} {oi : Oper} {fuel : Nat} {listed : Array Bool} {a : Act} {w : World} (hi : l[i]? = some oi) (hr : Region.ready md l.toArray listed = [i])
    (h : ∀ K : Act → World → Prop, Shut (∀ a w, S w → (S w → AnyZ P md l.toArray Q S z fuel (listed.setIfInBounds i true) a w) → K a w) → if Region.wanted oi (yielded l.toArray a.tmps) = true then Oper.wp P oi a w K Q else K (a.put oi.dst undef) w) :
    AnyZ P md l.toArray Q S z (fuel + 1) listed a w :=
  ⟨fun h0 => (by rw [hr] at h0; cases h0), fun j hj => by
    rw [hr] at hj
    obtain rfl := List.mem_singleton.1 hj
    exact wpOp_step (by simpa using hi) (fun K hK => h K (fun a w hS hW => hK a w ⟨.inr hS, hW hS⟩))⟩
/-- Either of two. -/
theorem rgnz_both {i j : Nat} {oi oj : Oper} {fuel : Nat} {listed : Array Bool} {a : Act} {w : World} (hi : l[i]? = some oi) (hj : l[j]? = some oj) (hr : Region.ready md l.toArray listed = [i, j])
    (h : ∀ K : Act → World → Prop, Shut (∀ a w, S w → (S w → AnyZ P md l.toArray Q S z fuel (listed.setIfInBounds i true) a w) → K a w) → if Region.wanted oi (yielded l.toArray a.tmps) = true then Oper.wp P oi a w K Q else K (a.put oi.dst undef) w)
    (k : ∀ K : Act → World → Prop, Shut (∀ a w, S w → (S w → AnyZ P md l.toArray Q S z fuel (listed.setIfInBounds j true) a w) → K a w) → if Region.wanted oj (yielded l.toArray a.tmps) = true then Oper.wp P oj a w K Q else K (a.put oj.dst undef) w) :
    AnyZ P md l.toArray Q S z (fuel + 1) listed a w :=
  ⟨fun h0 => (by rw [hr] at h0; cases h0), fun q hq => by
    rw [hr] at hq
    rcases List.mem_cons.1 hq with rfl | hq
    · exact wpOp_step (by simpa using hi) (fun K hK => h K (fun a w hS hW => hK a w ⟨.inr hS, hW hS⟩))
    · obtain rfl := List.mem_singleton.1 hq
      exact wpOp_step (by simpa using hj) (fun K hK => k K (fun a w hS hW => hK a w ⟨.inr hS, hW hS⟩))⟩
/-- The last one. -/
theorem rgnz_last {oi : Oper} {fuel : Nat} {listed : Array Bool} {a : Act} {w : World} (hi : l[z]? = some oi) (hr : Region.ready md l.toArray listed = [z]) (hd : Region.ready md l.toArray (listed.setIfInBounds z true) = [])
    (h : ∀ K : Act → World → Prop, Shut (∀ a w, Q .normal a w → K a w) → if Region.wanted oi (yielded l.toArray a.tmps) = true then Oper.wp P oi a w K Q else K (a.put oi.dst undef) w) :
    AnyZ P md l.toArray Q S z (fuel + 1) listed a w :=
  ⟨fun h0 => (by rw [hr] at h0; cases h0), fun j hj => by
    rw [hr] at hj
    obtain rfl := List.mem_singleton.1 hj
    refine wpOp_step (by simpa using hi) (fun K hK => h K (fun a w hq => hK a w ⟨.inl rfl, ?_⟩))
    cases fuel with
    | zero => exact ⟨hd, hq⟩
    | succ n => exact ⟨fun _ => hq, fun q hq2 => (by rw [hd] at hq2; cases hq2)⟩⟩
/-- The beginning. -/
theorem rgnz_start {id : Nat} {a : Act} {w : World} (hm : P.follows .mixedOrders = true) (hS : S w.drew)
    (h : S w.drew → AnyZ P .any ops Q S z ops.size (Array.replicate ops.size false) a w.drew) : (Code.region id ops true).wp P Q a w := wp_region_any hm (AnyZ.any _ _ _ _ (h hS))
end
end Go.Proofs.Ytaoenbjfkahdjaa
