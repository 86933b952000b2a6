/- A script, as it comes in. -/
import Derived.Test.YtiimlbkccoofmaaOpen2
import Derived.Test.YtiimlbkccoofmaaPlays2
namespace Go.Proofs.Ytiimlbkccoofmaa
open Go.RowKit Go.ChangeShapes Go.WideShapes Go.Deep
set_option linter.unusedVariables false

instance : Inhabited OpD := ⟨⟨0, 0, 0, none, 0, [], 0, 0⟩⟩
section
variable {H : Type} {enc : TypeId × Value → H} {w : World} {base : Nat} {spare : Nat → Bool} {held : Bool}
theorem Sized.field {P : Program} {t tj : TypeId} {fs : Array Field} {parts : List (DataW H)} {j : Nat} {d : DataW H} (h : Sized P t (.agg parts)) (hu : P.underlying t = some (.struct fs)) (ht : (fs.toList.map (·.type))[j]? = some tj) (hd : parts[j]? = some d) : Sized P tj d :=
  fun n hn => h n (by simp only [DataW.weights, hu]; exact DataW.weights_mem_each ht hd n hn)
theorem cells_int : Try.prog.cellsOf 3 = 1 := by kernel_rfl
theorem cells_bools : Try.prog.cellsOf 36 = 1 := by kernel_rfl
theorem op_of {n : Nat} {cs : List Value} {x : DataW H × List MemPlace} (h : DataW.trod enc Try.prog w base spare held n 53 cs = some x) (hz : Sized Try.prog 53 x.1) :
    ∃ o : OpD, cs = opV o ∧ (isI64 o.n ∧ RdV w o.kp (o.keep.map Value.bool) ∧ o.keep.length ≤ 140737488351232) := by
  obtain ⟨xs, m, rfl, hx, hl, hxl, hi⟩ := DataW.trod_struct Try.underlying53 h
  have hl6 : cs.length = 6 := hl.trans (by kernel_rfl)
  have hx6 : xs.length = 6 := hxl
  match cs, hl6, xs, hx6 with
  | [c0, c1, c2, c3, c4, c5], _, [x0, x1, x2, x3, x4, x5], _ =>
    have f0 : DataW.trod enc Try.prog w base spare held m 3 [c0] = some x0 := by have := hi 0 _ rfl; simpa [cells_int] using this
    have f1 : DataW.trod enc Try.prog w base spare held m 3 [c1] = some x1 := by have := hi 1 _ rfl; simpa [cells_int] using this
    have f2 : DataW.trod enc Try.prog w base spare held m 3 [c2] = some x2 := by have := hi 2 _ rfl; simpa [cells_int] using this
    have f3 : DataW.trod enc Try.prog w base spare held m 36 [c3] = some x3 := by have := hi 3 _ rfl; simpa [cells_bools] using this
    have f4 : DataW.trod enc Try.prog w base spare held m 3 [c4] = some x4 := by have := hi 4 _ rfl; simpa [cells_int] using this
    have f5 : DataW.trod enc Try.prog w base spare held m 3 [c5] = some x5 := by have := hi 5 _ rfl; simpa [cells_int] using this
    subst hx
    obtain ⟨a0, e0, _, w0⟩ := DataW.trod_int Try.underlying3 f0
    obtain ⟨a1, e1, _, w1⟩ := DataW.trod_int Try.underlying3 f1
    obtain ⟨a2, e2, _, w2⟩ := DataW.trod_int Try.underlying3 f2
    obtain ⟨a4, e4, _, w4⟩ := DataW.trod_int Try.underlying3 f4
    obtain ⟨a5, e5, _, w5⟩ := DataW.trod_int Try.underlying3 f5
    have hz3 : Sized Try.prog 36 x3.1 := Sized.field hz Try.underlying53 (j := 3) rfl rfl
    obtain ⟨A, c, l, e3, _, _, hr, hl3⟩ := open_bools Try.underlying36 Try.underlying4 (by kernel_rfl) (by kernel_rfl) f3 hz3
    injection e0 with e0 _
    injection e1 with e1 _
    injection e2 with e2 _
    injection e3 with e3 _
    injection e4 with e4 _
    injection e5 with e5 _
    subst e0; subst e1; subst e2; subst e3; subst e4; subst e5
    exact ⟨⟨a0, a1, a2, A, c, l, a4, a5⟩, rfl, bounds_i64 w1, hr, hl3⟩
theorem open_ops {fuel : Nat} {cs : List Value} {x : DataW H × List MemPlace} (h : DataW.trod enc Try.prog w base spare held fuel 48 cs = some x) (hz : Sized Try.prog 48 x.1) :
    ∃ (A : Option Addr) (c : Nat) (l : List OpD), cs = [.slice A l.length c] ∧ Script w A c l :=
  open_elems opV (fun o => isI64 o.n ∧ RdV w o.kp (o.keep.map Value.bool) ∧ o.keep.length ≤ 140737488351232) 6 64 Try.underlying48 (by kernel_rfl) (by kernel_rfl) (fun _ => rfl) (by decide) (fun n cs x hx hz => op_of hx hz) h hz
end
end Go.Proofs.Ytiimlbkccoofmaa
