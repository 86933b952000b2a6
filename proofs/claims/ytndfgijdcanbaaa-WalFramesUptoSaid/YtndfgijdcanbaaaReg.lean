/- An append as one step of a region that draws its order. -/
import Derived.Test.YtndfgijdcanbaaaOwnL
namespace Go.Proofs.Ytndfgijdcanbaaa
open Go.RowKit
set_option linter.unusedVariables false

theorem step_app {P : Program} {ops : Array Oper} {o : Oper} {a : Act} {w : World} {K : Act → World → Prop} {Q : Exit → Act → World → Prop} {E : Prop} (hgd : o.guard = none) (s x : Operand) (t : TypeId)
    (ho : o.op = .call { callee := .builtin .append, args := #[s, x], argTypes := #[t, t] })
    (base : Nat) (e : TypeId) (i : TypeInfo) (z : Value) (size bytes : Nat) (ht : P.underlying t = some (.slice e)) (hi : P.info? e = some i) (hz : i.zero = some z)
    (hsize : i.size = size) (hby : i.bytes = bytes) (hzs : z.cells.size = size) (hsz : 0 < size)
    (v : Value) (n : Nat) (xs : List Value) (hs : a.eval s = v) (hown : w.ownsRow base e size v n xs)
    (A : Option Addr) (m c : Nat) (news : List Value) (hx : a.eval x = .slice A m c) (hr : RdV w A news) (hm : news.length = m * size) (h1 : ∀ u ∈ news, u.oneCell' = true)
    (h63 : n + m ≤ maxLen) (hbytes : (n + m) * bytes ≤ 140737488355328) (hbase : base ≤ w.heap.size)
    (h : ∀ v' w', Appd base e size w v n m (xs ++ news) v' w' → K (a.put o.dst v') w') :
    if Region.wanted o (yielded ops a.tmps) = true then Oper.wp P o a w K Q else E := by
  have hw : Region.wanted o (yielded ops a.tmps) = true := by simp [Region.wanted, hgd]
  rw [if_pos hw]
  obtain ⟨v', w', hrun, h2⟩ := run_app (P := P) base t o.type e i z size bytes ht hi hz hsize hby hzs hsz v n xs hown A m c news hr hm h1 h63 hbytes hbase
  unfold Oper.wp execOp
  simp only [ho, resolve, invoke, builtin, Sem.run_bind, Sem.run_pure, Result.andThen_ok, List.map_toArray, List.map_cons, List.map_nil, hs, hx, hrun]
  exact h _ _ h2

theorem own_step {S : Nat → Prop} {w w' : World} {base e n : Nat} {v : Value} {xs : List Value} (h : w.ownsRow base e 1 v n xs) (k : Chg S w w') (hS : ∀ g, S g → ∃ t cs, At w g t cs ∧ t ≠ e) : w'.ownsRow base e 1 v n xs :=
  own_chg h k fun b hb hs => by
    obtain ⟨t, cs, ha, hne⟩ := hS b hs
    obtain ⟨cur, hc⟩ := own_type h hb
    exact ha.ne hc hne rfl
theorem OwnL.step {S : Nat → Prop} {w w' : World} {base : Nat} {ks : Rows_} (h : OwnL base w ks) (k : Chg S w w') (hS : ∀ g, S g → ∃ t cs, At w g t cs ∧ t ≠ 5) : OwnL base w' ks :=
  ⟨fun x hx => own_step (h.own x hx) k hS, h.apart⟩
theorem own_at {w : World} {base e n : Nat} {v : Value} {xs : List Value} (h : w.ownsRow base e 1 v n xs) {t' : TypeId} (hne : e ≠ t') : ∀ g, some g = v.ownBlock → ∃ t cs, At w g t cs ∧ t ≠ t' := fun g hg => by
  obtain ⟨cur, hc⟩ := own_type h hg.symm
  exact ⟨e, cur, hc, hne⟩
theorem at_one {w : World} {k t : Nat} {cs : Array Value} (h : At w k t cs) {t' : TypeId} (hne : t ≠ t') : ∀ g, One k g → ∃ t cs, At w g t cs ∧ t ≠ t' := fun g hg => by
  cases hg
  exact ⟨t, cs, h, hne⟩
theorem chg_set (w : World) (k i : Nat) (u : Value) : Chg (One k) w (w.setCell ⟨k, i, none⟩ u) := (Chg.refl (One k) w).setCell (p := ⟨k, i, none⟩) (fun _ => rfl) u
end Go.Proofs.Ytndfgijdcanbaaa
