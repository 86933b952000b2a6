/- Entries, as they come in. -/
import Derived.Test.YtlcifkkgekpicaaOpen2
import Derived.Test.YtlcifkkgekpicaaMem3
namespace Go.Proofs.Ytlcifkkgekpicaa
open Go.RowKit Go.ChangeShapes Go.WideShapes Go.Deep
set_option linter.unusedVariables false

instance : Inhabited En := ⟨⟨(none, 0, []), (none, 0, []), 0, false⟩⟩
/-- What is known of an entry that comes in. -/
structure EnIn (w : World) (e : En) : Prop where
  r : EnR w e
  k1 : e.key.2.2.length ≤ 140737488351232
  k2 : e.key.2.2.length ≤ e.key.2.1
  k3 : e.key.2.1 ≤ maxLen
  v1 : e.value.2.2.length ≤ 140737488351232
  v2 : e.value.2.2.length ≤ e.value.2.1
  v3 : e.value.2.1 ≤ maxLen
  s : isI64 e.seq
theorem EnIn.new {w w' : World} {e : En} (h : EnIn w e) (k : Chg No w w') : EnIn w' e := ⟨h.r.new k, h.k1, h.k2, h.k3, h.v1, h.v2, h.v3, h.s⟩
theorem EnIn.ens {w : World} {es : List En} (h : ∀ e ∈ es, EnIn w e) : EnsR w es := fun e he => (h e he).r
section
variable {H : Type} {enc : TypeId × Value → H} {w : World} {base : Nat} {spare : Nat → Bool} {held : Bool}
theorem Sized.field {P : Program} {t tj : TypeId} {fs : Array Field} {parts : List (DataW H)} {j : Nat} {d : DataW H} (h : Sized P t (.agg parts)) (hu : P.underlying t = some (.struct fs)) (ht : (fs.toList.map (·.type))[j]? = some tj) (hd : parts[j]? = some d) : Sized P tj d :=
  fun n hn => h n (by simp only [DataW.weights, hu]; exact DataW.weights_mem_each ht hd n hn)
theorem cells_int : Try.prog.cellsOf 3 = 1 := by kernel_rfl
theorem cells_bool : Try.prog.cellsOf 4 = 1 := by kernel_rfl
theorem cells_bytes : Try.prog.cellsOf 22 = 1 := by kernel_rfl
theorem cells_entry : Try.prog.cellsOf 24 = 4 := by kernel_rfl
theorem entry_of {n : Nat} {cs : List Value} {x : DataW H × List MemPlace} (h : DataW.trod enc Try.prog w base spare held n 24 cs = some x) (hz : Sized Try.prog 24 x.1) :
    ∃ e : En, cs = enV e ∧ EnIn w e := by
  obtain ⟨xs, m, rfl, hx, hl, hxl, hi⟩ := DataW.trod_struct Try.underlying24 h
  have hl4 : cs.length = 4 := hl.trans (by kernel_rfl)
  have hx4 : xs.length = 4 := hxl
  match cs, hl4, xs, hx4 with
  | [c0, c1, c2, c3], _, [x0, x1, x2, x3], _ =>
    have f0 : DataW.trod enc Try.prog w base spare held m 22 [c0] = some x0 := by have := hi 0 _ rfl; simpa [cells_bytes] using this
    have f1 : DataW.trod enc Try.prog w base spare held m 22 [c1] = some x1 := by have := hi 1 _ rfl; simpa [cells_bytes] using this
    have f2 : DataW.trod enc Try.prog w base spare held m 3 [c2] = some x2 := by have := hi 2 _ rfl; simpa [cells_bytes, cells_int] using this
    have f3 : DataW.trod enc Try.prog w base spare held m 4 [c3] = some x3 := by have := hi 3 _ rfl; simpa [cells_bytes, cells_int, cells_bool] using this
    subst hx
    have hz0 : Sized Try.prog 22 x0.1 := Sized.field hz Try.underlying24 (j := 0) rfl rfl
    have hz1 : Sized Try.prog 22 x1.1 := Sized.field hz Try.underlying24 (j := 1) rfl rfl
    obtain ⟨A0, k0, l0, e0, p1, p2, p3, p4, _⟩ := open_bytes Try.underlying22 Try.underlying5 (by kernel_rfl) (by kernel_rfl) f0 hz0
    obtain ⟨A1, k1, l1, e1, q1, q2, q3, q4, _⟩ := open_bytes Try.underlying22 Try.underlying5 (by kernel_rfl) (by kernel_rfl) f1 hz1
    obtain ⟨a2, e2, _, w2⟩ := DataW.trod_int Try.underlying3 f2
    obtain ⟨a3, e3, _⟩ := DataW.trod_bool Try.underlying4 f3
    injection e0 with e0 _
    injection e1 with e1 _
    injection e2 with e2 _
    injection e3 with e3 _
    subst e0; subst e1; subst e2; subst e3
    exact ⟨⟨(A0, k0, l0), (A1, k1, l1), a2, a3⟩, rfl, ⟨p3, q3⟩, p4, p1, p2, q4, q1, q2, bounds_i64 w2⟩
/-- Rows of entries that come in. -/
def EnsIn (w : World) (A : Option Addr) (c : Nat) (l : List En) : Prop := l.length ≤ c ∧ c ≤ maxLen ∧ RdV w A (l.flatMap enV) ∧ l.length * 64 ≤ 140737488351232 ∧ ∀ e ∈ l, EnIn w e
theorem open_entries {fuel : Nat} {cs : List Value} {x : DataW H × List MemPlace} (h : DataW.trod enc Try.prog w base spare held fuel 25 cs = some x) (hz : Sized Try.prog 25 x.1) :
    ∃ (A : Option Addr) (c : Nat) (l : List En), cs = [.slice A l.length c] ∧ EnsIn w A c l :=
  open_elems enV (EnIn w) 4 64 Try.underlying25 (by kernel_rfl) (by kernel_rfl) (fun _ => rfl) (by decide) (fun n cs x hx hz => entry_of hx hz) h hz
/-- An entry and its height. -/
structure PuD where
  e : En
  H : Int
instance : Inhabited PuD := ⟨⟨default, 0⟩⟩
def puV (p : PuD) : List Value := enV p.e ++ [.int .i64 p.H]
def PuIn (w : World) (p : PuD) : Prop := EnIn w p.e ∧ isI64 p.H
theorem put_of {n : Nat} {cs : List Value} {x : DataW H × List MemPlace} (h : DataW.trod enc Try.prog w base spare held n 38 cs = some x) (hz : Sized Try.prog 38 x.1) :
    ∃ p : PuD, cs = puV p ∧ PuIn w p := by
  obtain ⟨xs, m, rfl, hx, hl, hxl, hi⟩ := DataW.trod_struct Try.underlying38 h
  have hl5 : cs.length = 5 := hl.trans (by kernel_rfl)
  have hx2 : xs.length = 2 := hxl
  match cs, hl5, xs, hx2 with
  | [c0, c1, c2, c3, c4], _, [x0, x1], _ =>
    have f0 : DataW.trod enc Try.prog w base spare held m 24 [c0, c1, c2, c3] = some x0 := by have := hi 0 _ rfl; simpa [cells_entry] using this
    have f1 : DataW.trod enc Try.prog w base spare held m 3 [c4] = some x1 := by have := hi 1 _ rfl; simpa [cells_entry, cells_int] using this
    subst hx
    have hz0 : Sized Try.prog 24 x0.1 := Sized.field hz Try.underlying38 (j := 0) rfl rfl
    obtain ⟨e, he, hin⟩ := entry_of f0 hz0
    obtain ⟨a1, e1, _, w1⟩ := DataW.trod_int Try.underlying3 f1
    injection e1 with e1 _
    subst e1
    refine ⟨⟨e, a1⟩, ?_, hin, bounds_i64 w1⟩
    unfold puV
    rw [← he]
    rfl
def PusIn (w : World) (A : Option Addr) (c : Nat) (l : List PuD) : Prop := l.length ≤ c ∧ c ≤ maxLen ∧ RdV w A (l.flatMap puV) ∧ l.length * 72 ≤ 140737488351232 ∧ ∀ e ∈ l, PuIn w e
theorem open_puts {fuel : Nat} {cs : List Value} {x : DataW H × List MemPlace} (h : DataW.trod enc Try.prog w base spare held fuel 31 cs = some x) (hz : Sized Try.prog 31 x.1) :
    ∃ (A : Option Addr) (c : Nat) (l : List PuD), cs = [.slice A l.length c] ∧ PusIn w A c l :=
  open_elems puV (PuIn w) 5 72 Try.underlying31 (by kernel_rfl) (by kernel_rfl) (fun _ => rfl) (by decide) (fun n cs x hx hz => put_of hx hz) h hz
end
end Go.Proofs.Ytlcifkkgekpicaa
