/- A space's script: its steps as they come in, cut short. -/
import Derived.Test.YtjmapbhgjhlefaaQ12
import Derived.Test.YtjmapbhgjhlefaaQ15
import Derived.Test.YtjmapbhgjhlefaaQWithin
namespace Go.Proofs.Ytjmapbhgjhlefaa
open Go.RowKit Go.ChangeShapes Go.WideShapes Go.Deep
set_option linter.unusedVariables false
set_option maxRecDepth 100000

/-- A step. -/
structure StD where
  did : Int
  n : Int
  k : Int
  add : Option Addr × Nat × List Fi
  drop : Option Addr × Nat × List Int
  bytes : Slc
  keep : Option Addr × Nat × List Bool
  torn : Int
  cut : Int
instance : Inhabited Fi := ⟨⟨0, 0, 0⟩⟩
instance : Inhabited StD := ⟨⟨0, 0, 0, default, default, default, default, 0, 0⟩⟩
def stV (x : StD) : List Value := [.int .i64 x.did, .int .i64 x.n, .int .i64 x.k, .slice x.add.1 x.add.2.2.length x.add.2.1, .slice x.drop.1 x.drop.2.2.length x.drop.2.1, .slice x.bytes.1 x.bytes.2.2.length x.bytes.2.1, .slice x.keep.1 x.keep.2.2.length x.keep.2.1, .int .i64 x.torn, .int .i64 x.cut]
def FiIn (f : Fi) : Prop := isI64 f.num ∧ isI64 f.first ∧ isI64 f.blocks
structure StIn (w : World) (x : StD) : Prop where
  did : isI64 x.did
  n : isI64 x.n
  k : isI64 x.k
  add : RdV w x.add.1 (x.add.2.2.flatMap fiI) ∧ x.add.2.2.length ≤ x.add.2.1 ∧ x.add.2.1 ≤ maxLen ∧ x.add.2.2.length ≤ 140737488351232 ∧ ∀ f ∈ x.add.2.2, FiIn f
  drop : RdV w x.drop.1 (x.drop.2.2.map fun n => .int .i64 n) ∧ x.drop.2.2.length ≤ x.drop.2.1 ∧ x.drop.2.1 ≤ maxLen ∧ x.drop.2.2.length ≤ 140737488351232 ∧ ∀ n ∈ x.drop.2.2, isI64 n
  bytes : Rd w x.bytes.1 x.bytes.2.2 ∧ x.bytes.2.2.length ≤ x.bytes.2.1 ∧ x.bytes.2.1 ≤ maxLen ∧ x.bytes.2.2.length ≤ 140737488351232
  keep : RdV w x.keep.1 (x.keep.2.2.map Value.bool) ∧ x.keep.2.2.length ≤ x.keep.2.1 ∧ x.keep.2.2.length ≤ 140737488351232
  torn : isI64 x.torn
  cut : isI64 x.cut
section
variable {H : Type} {enc : TypeId × Value → H} {w : World} {base : Nat} {spare : Nat → Bool} {held : Bool}
theorem Sized.field {P : Program} {t tj : TypeId} {fs : Array Field} {parts : List (DataW H)} {j : Nat} {d : DataW H} (h : Sized P t (.agg parts)) (hu : P.underlying t = some (.struct fs)) (ht : (fs.toList.map (·.type))[j]? = some tj) (hd : parts[j]? = some d) : Sized P tj d :=
  fun n hn => h n (by simp only [DataW.weights, hu]; exact DataW.weights_mem_each ht hd n hn)
theorem cells_int : Try.prog.cellsOf 3 = 1 := by kernel_rfl
theorem cells_ints : Try.prog.cellsOf 22 = 1 := by kernel_rfl
theorem cells_bools : Try.prog.cellsOf 23 = 1 := by kernel_rfl
theorem cells_bytes : Try.prog.cellsOf 39 = 1 := by kernel_rfl
theorem cells_fis : Try.prog.cellsOf 36 = 1 := by kernel_rfl
theorem fi_of {n : Nat} {cs : List Value} {x : DataW H × List MemPlace} (h : DataW.trod enc Try.prog w base spare held n 35 cs = some x) : ∃ f : Fi, cs = fiI f ∧ FiIn f := by
  obtain ⟨xs, m, rfl, hx, hl, hxl, hi⟩ := DataW.trod_struct Try.underlying35 h
  have hl3 : cs.length = 3 := hl.trans (by kernel_rfl)
  have hx3 : xs.length = 3 := hxl
  match cs, hl3, xs, hx3 with
  | [c0, c1, c2], _, [x0, x1, x2], _ =>
    have f0 : DataW.trod enc Try.prog w base spare held m 3 [c0] = some x0 := by have := hi 0 _ rfl; simpa [cells_int] using this
    have f1 : DataW.trod enc Try.prog w base spare held m 3 [c1] = some x1 := by have := hi 1 _ rfl; simpa [cells_int] using this
    have f2 : DataW.trod enc Try.prog w base spare held m 3 [c2] = some x2 := by have := hi 2 _ rfl; simpa [cells_int] using this
    obtain ⟨a0, e0, _, w0⟩ := DataW.trod_int Try.underlying3 f0
    obtain ⟨a1, e1, _, w1⟩ := DataW.trod_int Try.underlying3 f1
    obtain ⟨a2, e2, _, w2⟩ := DataW.trod_int Try.underlying3 f2
    injection e0 with e0 _
    injection e1 with e1 _
    injection e2 with e2 _
    subst e0; subst e1; subst e2
    exact ⟨⟨a0, a1, a2⟩, rfl, bounds_i64 w0, bounds_i64 w1, bounds_i64 w2⟩
theorem step_of {n : Nat} {cs : List Value} {x : DataW H × List MemPlace} (h : DataW.trod enc Try.prog w base spare held n 67 cs = some x) (hz : Sized Try.prog 67 x.1) :
    ∃ o : StD, cs = stV o ∧ StIn w o := by
  obtain ⟨xs, m, rfl, hx, hl, hxl, hi⟩ := DataW.trod_struct Try.underlying67 h
  have hl9 : cs.length = 9 := hl.trans (by kernel_rfl)
  have hx9 : xs.length = 9 := hxl
  match cs, hl9, xs, hx9 with
  | [c0, c1, c2, c3, c4, c5, c6, c7, c8], _, [x0, x1, x2, x3, x4, x5, x6, x7, x8], _ =>
    have f0 : DataW.trod enc Try.prog w base spare held m 3 [c0] = some x0 := by have := hi 0 _ rfl; simpa [cells_int] using this
    have f1 : DataW.trod enc Try.prog w base spare held m 3 [c1] = some x1 := by have := hi 1 _ rfl; simpa [cells_int] using this
    have f2 : DataW.trod enc Try.prog w base spare held m 3 [c2] = some x2 := by have := hi 2 _ rfl; simpa [cells_int] using this
    have f3 : DataW.trod enc Try.prog w base spare held m 36 [c3] = some x3 := by have := hi 3 _ rfl; simpa [cells_int, cells_fis] using this
    have f4 : DataW.trod enc Try.prog w base spare held m 22 [c4] = some x4 := by have := hi 4 _ rfl; simpa [cells_int, cells_fis, cells_ints] using this
    have f5 : DataW.trod enc Try.prog w base spare held m 39 [c5] = some x5 := by have := hi 5 _ rfl; simpa [cells_int, cells_fis, cells_ints, cells_bytes] using this
    have f6 : DataW.trod enc Try.prog w base spare held m 23 [c6] = some x6 := by have := hi 6 _ rfl; simpa [cells_int, cells_fis, cells_ints, cells_bytes, cells_bools] using this
    have f7 : DataW.trod enc Try.prog w base spare held m 3 [c7] = some x7 := by have := hi 7 _ rfl; simpa [cells_int, cells_fis, cells_ints, cells_bytes, cells_bools] using this
    have f8 : DataW.trod enc Try.prog w base spare held m 3 [c8] = some x8 := by have := hi 8 _ rfl; simpa [cells_int, cells_fis, cells_ints, cells_bytes, cells_bools] using this
    subst hx
    obtain ⟨a0, e0, _, w0⟩ := DataW.trod_int Try.underlying3 f0
    obtain ⟨a1, e1, _, w1⟩ := DataW.trod_int Try.underlying3 f1
    obtain ⟨a2, e2, _, w2⟩ := DataW.trod_int Try.underlying3 f2
    obtain ⟨a7, e7, _, w7⟩ := DataW.trod_int Try.underlying3 f7
    obtain ⟨a8, e8, _, w8⟩ := DataW.trod_int Try.underlying3 f8
    have hz3 : Sized Try.prog 36 x3.1 := Sized.field hz Try.underlying67 (j := 3) rfl rfl
    have hz4 : Sized Try.prog 22 x4.1 := Sized.field hz Try.underlying67 (j := 4) rfl rfl
    have hz5 : Sized Try.prog 39 x5.1 := Sized.field hz Try.underlying67 (j := 5) rfl rfl
    have hz6 : Sized Try.prog 23 x6.1 := Sized.field hz Try.underlying67 (j := 6) rfl rfl
    obtain ⟨A3, k3, l3, e3, p3, q3, r3, z3, g3⟩ := open_elems fiI FiIn 3 24 Try.underlying36 (by kernel_rfl) (by kernel_rfl) (fun _ => rfl) (by decide) (fun n cs x hx _ => fi_of hx) f3 hz3
    obtain ⟨A4, k4, l4, e4, p4, q4, r4, z4, g4⟩ := open_words Try.underlying22 Try.underlying3 (by kernel_rfl) (by kernel_rfl) f4 hz4
    obtain ⟨A5, k5, l5, e5, p5, q5, r5, z5, _⟩ := open_bytes Try.underlying39 Try.underlying5 (by kernel_rfl) (by kernel_rfl) f5 hz5
    obtain ⟨A6, k6, l6, e6, p6, q6, r6, z6⟩ := open_bools Try.underlying23 Try.underlying4 (by kernel_rfl) (by kernel_rfl) f6 hz6
    injection e0 with e0 _
    injection e1 with e1 _
    injection e2 with e2 _
    injection e3 with e3 _
    injection e4 with e4 _
    injection e5 with e5 _
    injection e6 with e6 _
    injection e7 with e7 _
    injection e8 with e8 _
    subst e0; subst e1; subst e2; subst e3; subst e4; subst e5; subst e6; subst e7; subst e8
    exact ⟨⟨a0, a1, a2, (A3, k3, l3), (A4, k4, l4), (A5, k5, l5), (A6, k6, l6), a7, a8⟩, rfl, bounds_i64 w0, bounds_i64 w1, bounds_i64 w2, ⟨r3, p3, q3, by show l3.length ≤ _; omega, g3⟩, ⟨r4, p4, q4, by show l4.length ≤ _; omega, g4⟩, ⟨r5, p5, q5, z5⟩, ⟨r6, p6, z6⟩, bounds_i64 w7, bounds_i64 w8⟩
def StsIn (w : World) (A : Option Addr) (c : Nat) (l : List StD) : Prop := l.length ≤ c ∧ c ≤ maxLen ∧ RdV w A (l.flatMap stV) ∧ l.length * 136 ≤ 140737488351232 ∧ ∀ x ∈ l, StIn w x
theorem open_steps {fuel : Nat} {cs : List Value} {x : DataW H × List MemPlace} (h : DataW.trod enc Try.prog w base spare held fuel 61 cs = some x) (hz : Sized Try.prog 61 x.1) :
    ∃ (A : Option Addr) (c : Nat) (l : List StD), cs = [.slice A l.length c] ∧ StsIn w A c l :=
  open_elems stV (StIn w) 9 136 Try.underlying61 (by kernel_rfl) (by kernel_rfl) (fun _ => rfl) (by decide) (fun n cs x hx hz => step_of hx hz) h hz
end
end Go.Proofs.Ytjmapbhgjhlefaa
