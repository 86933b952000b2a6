/- Lists of rows of bytes of the call's own making; Twins, Lists, octet.Join, Within. -/
import Derived.Test.YtndfgijdcanbaaaBytes
namespace Go.Proofs.Ytndfgijdcanbaaa
open Go.RowKit
set_option linter.unusedVariables false

theorem info_sl : (Try.prog.info? 24).map (fun i => (i.zero, i.size, i.bytes)) = some (some (.slice none 0 0), 1, 24) := by kernel_rfl

theorem own_type {w : World} {base e n : Nat} {v : Value} {xs : List Value} (h : w.ownsRow base e 1 v n xs) {g : Nat} (hg : v.ownBlock = some g) : ∃ cur, At w g e cur := by
  rcases h.2 with ⟨rfl, _⟩ | ⟨g', cap, cur, rfl, _, hh, _⟩
  · simp [Value.ownBlock] at hg
  · simp [Value.ownBlock] at hg
    subst hg
    exact ⟨cur, hh⟩
theorem own_ne {w : World} {base e n base' e' n' : Nat} {v v' : Value} {xs xs' : List Value} (h : w.ownsRow base e 1 v n xs) (h' : w.ownsRow base' e' 1 v' n' xs') (hne : e ≠ e') : ∀ g, v.ownBlock = some g → v'.ownBlock ≠ some g := by
  intro g hg hg'
  obtain ⟨c, hc⟩ := own_type h hg
  obtain ⟨c', hc'⟩ := own_type h' hg'
  exact hc.ne hc' hne rfl

theorem own_ne_at {w : World} {base e n g t : Nat} {v : Value} {xs : List Value} {cs : Array Value} (h : w.ownsRow base e 1 v n xs) (hg : At w g t cs) (hne : e ≠ t) : some g ≠ v.ownBlock := by
  intro hv
  obtain ⟨cur, hc⟩ := own_type h hv.symm
  exact hc.ne hg hne rfl
theorem own_base {w : World} {base base' e size n : Nat} {v : Value} {xs : List Value} (h : w.ownsRow base e size v n xs) (hb : base' ≤ base) : w.ownsRow base' e size v n xs := by
  refine ⟨h.1, ?_⟩
  rcases h.2 with h2 | ⟨g, cap, cur, e, hg, r⟩
  · exact .inl h2
  · exact .inr ⟨g, cap, cur, e, Nat.le_trans hb hg, r⟩
/-- Each of the rows is the call's own, and no two share a block. -/
structure OwnL (base : Nat) (w : World) (ks : Rows_) : Prop where
  own : ∀ k ∈ ks, w.ownsRow base 5 1 (slOf k) k.2.2.length (k.2.2.map bv)
  apart : ks.Pairwise fun a b => ∀ g, (slOf a).ownBlock = some g → (slOf b).ownBlock ≠ some g
/-- The list itself: its row, and the rows. -/
structure OwnLL (base : Nat) (w : World) (v : Value) (ks : Rows_) : Prop where
  row : w.ownsRow base 24 1 v ks.length (ks.map slOf)
  each : OwnL base w ks
section
variable {base : Nat} {w w' : World} {v : Value} {ks : Rows_}
theorem OwnL.nil (base : Nat) (w : World) : OwnL base w [] := ⟨by simp, List.Pairwise.nil⟩
theorem OwnLL.nil (base : Nat) (w : World) : OwnLL base w (.slice none 0 0) [] := ⟨World.ownsRow_nil _ _ _ _, OwnL.nil _ _⟩
theorem OwnL.chg {S : Nat → Prop} (h : OwnL base w ks) (k : Chg S w w') (hS : ∀ x ∈ ks, ∀ g, (slOf x).ownBlock = some g → ¬ S g) : OwnL base w' ks :=
  ⟨fun x hx => own_chg (h.own x hx) k (hS x hx), h.apart⟩
theorem OwnL.new (h : OwnL base w ks) (k : Chg No w w') : OwnL base w' ks := h.chg k fun _ _ _ _ => id
theorem OwnLL.new (h : OwnLL base w v ks) (k : Chg No w w') : OwnLL base w' v ks := ⟨own_chg h.row k fun _ _ => id, h.each.new k⟩
theorem OwnLL.old {B : Nat} (h : OwnLL base w v ks) (k : Chg (From B) w w') (hb : w.heap.size ≤ B) : OwnLL base w' v ks :=
  ⟨own_chg h.row k fun g hg => by have := h.row.lt g hg; unfold From; omega, h.each.chg k fun x hx g hg => by have := (h.each.own x hx).lt g hg; unfold From; omega⟩
theorem OwnL.mono {base' : Nat} (h : OwnL base w ks) (hb : base' ≤ base) : OwnL base' w ks := by
  refine ⟨fun x hx => ?_, h.apart⟩
  obtain ⟨h1, h2⟩ := h.own x hx
  refine ⟨h1, ?_⟩
  rcases h2 with h2 | ⟨g, cap, cur, e, hg, r⟩
  · exact .inl h2
  · exact .inr ⟨g, cap, cur, e, Nat.le_trans hb hg, r⟩
/-- What lies there reads as the texts. -/
theorem OwnL.rd (h : OwnL base w ks) {x : Option Addr × Nat × List UInt8} (hx : x ∈ ks) : Rd w x.1 x.2.2 := RdV.of_own (h.own x hx)
theorem OwnLL.rdl (h : OwnLL base w v ks) : ∃ A c, v = .slice A ks.length c ∧ RdL w A ks ∧ ks.length ≤ c ∧ c ≤ maxLen ∧ ∀ b o, A = some ⟨b, o, none⟩ → base ≤ b := by
  obtain ⟨A, c, rfl, h1, h2, h3, h4⟩ := own_rd h.row
  exact ⟨A, c, rfl, ⟨h1, fun x hx => h.each.rd hx⟩, h2, h3, h4⟩
theorem OwnL.caps (h : OwnL base w ks) : ∀ k ∈ ks, k.2.2.length ≤ k.2.1 ∧ k.2.1 ≤ maxLen := fun k hk => by
  obtain ⟨A, c, e, _, h1, h2, _⟩ := own_rd (h.own k hk)
  unfold slOf at e
  injection e with _ _ e
  rw [e]
  exact ⟨h1, h2⟩
/-- One row more, of new memory. -/
theorem OwnL.snoc {base2 : Nat} (h : OwnL base w ks) {x : Option Addr × Nat × List UInt8} (hx : w.ownsRow base2 5 1 (slOf x) x.2.2.length (x.2.2.map bv)) (hb : base ≤ base2) (hlt : ∀ k ∈ ks, ∀ g, (slOf k).ownBlock = some g → g < base2) : OwnL base w (ks ++ [x]) := by
  refine ⟨fun k hk => ?_, ?_⟩
  · rcases List.mem_append.1 hk with h1 | h1
    · exact h.own k h1
    · simp at h1
      subst h1
      have hm : OwnL base2 w [k] := ⟨fun y hy => by simp at hy; subst hy; exact hx, by simp⟩
      exact (hm.mono hb).own k (by simp)
  · rw [List.pairwise_append]
    refine ⟨h.apart, by simp, fun a ha b hb' g hg hg' => ?_⟩
    simp at hb'
    subst hb'
    have h1 := hlt a ha g hg
    have h2 := (hx.lt g hg').1
    omega
theorem slOf_one (ks : Rows_) : ∀ u ∈ ks.map slOf, u.oneCell' = true := by
  intro u hu
  obtain ⟨k, _, rfl⟩ := List.mem_map.1 hu
  rfl
theorem own_sl {n : Nat} {l : List UInt8} (h : w.ownsRow base 5 1 v n (l.map bv)) : ∃ A c, v = .slice A l.length c ∧ n = l.length := by
  have hn : n = l.length := by simpa using h.1.symm
  subst hn
  obtain ⟨A, c, rfl, _⟩ := own_rd h
  exact ⟨A, c, rfl, rfl⟩
/-- What an append of one row to a list of rows leaves. -/
theorem OwnLL.appd {base2 : Nat} {x : Option Addr × Nat × List UInt8} {w1 : World} {v' : Value} (h : OwnLL base w v ks) (hx : w.ownsRow base2 5 1 (slOf x) x.2.2.length (x.2.2.map bv)) (hb : base ≤ base2)
    (hlt : ∀ k ∈ ks, ∀ g, (slOf k).ownBlock = some g → g < base2) (hap : Appd base 24 1 w v ks.length 1 (ks.map slOf ++ [slOf x]) v' w1) : OwnLL base w1 v' (ks ++ [x]) := by
  refine ⟨by simpa using hap.own, ?_⟩
  refine (h.each.snoc hx hb hlt).chg hap.chg fun y hy g hg => ?_
  intro e
  have hy' := (h.each.snoc hx hb hlt).own y hy
  exact own_ne hy' h.row (by decide) g hg e.symm
end

/-- A quiet call behind draws. -/
theorem quiet_add_same' {P : Program} {f : FuncId} {args : Array Value} {w : World} {a n : Nat} {v : Value}
    (h : Calls P f args (w.drewN (a + n)) fun e w' => e = .returned v ∧ w' = w.drewN (a + n)) : Calls P f args (w.drewN (a + n)) fun e w'' => e = .returned v ∧ ∃ m, w'' = w.drewN (a + m) :=
  h.mono fun _ _ ⟨he, hm⟩ => ⟨he, n, hm⟩
end Go.Proofs.Ytndfgijdcanbaaa
