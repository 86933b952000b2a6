/- Joined, as they were built one by one: Sep Bytes Rol Map. -/
import Derived.Test.YtaoenbjfkahdjaaProg
import Derived.Lib.SlBytesConst
import Derived.Maps.Keyed
import Derived.Maps.OwnOps
import Derived.Maps.OwnSet
import Derived.Maps.RangeWalk
import Derived.Test.YtaoenbjfkahdjaaQ01
namespace Go.Proofs.Ytaoenbjfkahdjaa
open Go.RowKit
set_option linter.unusedVariables false
set_option maxRecDepth 100000

/-- A part of the memory: blocks, each for good (true) or of the holder alone (false). -/
def Hp := Nat → Option (Bool × Obj)
def jn (x y : Option (Bool × Obj)) : Option (Bool × Obj) := match x with | some a => some a | none => y
def okk (x y : Option (Bool × Obj)) : Prop := x = none ∨ y = none ∨ ∃ o, x = some (true, o) ∧ y = some (true, o)
theorem okk.symm {x y} (h : okk x y) : okk y x := by
  rcases h with h | h | ⟨o, h1, h2⟩
  · exact .inr (.inl h)
  · exact .inl h
  · exact .inr (.inr ⟨o, h2, h1⟩)
theorem jn_comm {x y} (h : okk x y) : jn x y = jn y x := by
  rcases h with rfl | rfl | ⟨o, rfl, rfl⟩
  · cases y <;> rfl
  · cases x <;> rfl
  · rfl
theorem jn_assoc (x y z) : jn (jn x y) z = jn x (jn y z) := by cases x <;> rfl
theorem okk_left {x y z} (h : okk x y) (k : okk (jn x y) z) : okk y z ∧ okk x (jn y z) := by
  rcases h with rfl | rfl | ⟨o, rfl, rfl⟩
  · exact ⟨k, .inl rfl⟩
  · refine ⟨.inl rfl, ?_⟩
    cases x with
    | none => exact .inl rfl
    | some a => exact k
  · refine ⟨k, ?_⟩
    exact .inr (.inr ⟨o, rfl, rfl⟩)
theorem okk_right {x y z} (h : okk y z) (k : okk x (jn y z)) : okk x y ∧ okk (jn x y) z := by
  have := okk_left (x := z) (y := y) (z := x) h.symm (by rw [jn_comm h.symm]; exact k.symm)
  refine ⟨this.1.symm, ?_⟩
  rw [jn_comm this.1.symm]
  exact this.2.symm
def Hp.ok (a b : Hp) : Prop := ∀ k, okk (a k) (b k)
def Hp.un (a b : Hp) : Hp := fun k => jn (a k) (b k)
def SP := Hp → Prop
instance : Mul SP := ⟨fun A B => fun h => ∃ a b, a.ok b ∧ h = a.un b ∧ A a ∧ B b⟩
theorem star_def (A B : SP) (h : Hp) : (A * B) h = ∃ a b, a.ok b ∧ h = a.un b ∧ A a ∧ B b := rfl
theorem star_comm (A B : SP) : A * B = B * A := by
  have : ∀ A B : SP, ∀ h, (A * B) h → (B * A) h := fun A B h ⟨a, b, h1, h2, h3, h4⟩ =>
    ⟨b, a, fun k => (h1 k).symm, by rw [h2]; funext k; exact jn_comm (h1 k), h4, h3⟩
  funext h
  exact propext ⟨this A B h, this B A h⟩
theorem star_assoc (A B C : SP) : A * B * C = A * (B * C) := by
  funext h
  refine propext ⟨?_, ?_⟩
  · rintro ⟨x, c, h1, rfl, ⟨a, b, h2, rfl, ha, hb⟩, hc⟩
    exact ⟨a, b.un c, fun k => (okk_left (h2 k) (h1 k)).2, funext fun k => jn_assoc _ _ _, ha, b, c, fun k => (okk_left (h2 k) (h1 k)).1, rfl, hb, hc⟩
  · rintro ⟨a, x, h1, rfl, ha, b, c, h2, rfl, hb, hc⟩
    exact ⟨a.un b, c, fun k => (okk_right (h2 k) (h1 k)).2, funext fun k => (jn_assoc _ _ _).symm, ⟨a, b, fun k => (okk_right (h2 k) (h1 k)).1, rfl, ha, hb⟩, hc⟩
theorem star_left (A B C : SP) : A * (B * C) = B * (A * C) := by rw [← star_assoc, star_comm A B, star_assoc]
instance : Std.Associative (α := SP) (· * ·) := ⟨star_assoc⟩
instance : Std.Commutative (α := SP) (· * ·) := ⟨star_comm⟩

/-- Nothing. -/
def Emp : SP := fun h => h = fun _ => none
theorem star_emp (A : SP) : A * Emp = A := by
  funext h
  refine propext ⟨?_, fun ha => ⟨h, fun _ => none, fun k => .inr (.inl rfl), funext fun k => ?_, ha, rfl⟩⟩
  · rintro ⟨a, b, _, rfl, ha, rfl⟩
    have : a.un (fun _ => none) = a := funext fun k => by unfold Hp.un jn; cases a k <;> rfl
    rw [this]; exact ha
  · unfold Hp.un jn; cases h k <;> rfl
theorem emp_star (A : SP) : Emp * A = A := by rw [star_comm, star_emp]
def one1 (b : Nat) (x : Bool × Obj) : Hp := fun k => if k = b then some x else none
def SP.ex {α : Type} (B : α → SP) : SP := fun h => ∃ x, B x h
def SP.and (φ : Prop) (A : SP) : SP := fun h => φ ∧ A h
/-- A block of one's own, whatever it is. -/
def Ow (b : Nat) (o : Obj) : SP := fun h => h = one1 b (false, o)
/-- A block of cells of one's own. -/
def Pt (b : Nat) (t : TypeId) (cs : Array Value) : SP := Ow b (.cells cs t (0, 0))
/-- What reads as these values, for good. -/
def Ro (A : Option Addr) (xs : List Value) : SP := fun h => (∀ k x, h k = some x → x.1 = true) ∧ (xs ≠ [] → ∃ b o cs t fr, A = some ⟨b, o, none⟩ ∧ h b = some (true, .cells cs t fr) ∧ ∀ j (hj : j < xs.length), cs[o + j]? = some xs[j])
def Rb (A : Option Addr) (l : List UInt8) : SP := Ro A (l.map bv)

/-- The world w, come from w0 by writing nothing that was there, holds A. -/
structure Sat (w0 : World) (A : SP) (w : World) : Prop where
  chg : Chg No w0 w
  hp : ∃ h : Hp, (∀ k x, h k = some x → w.heap[k]? = some x.2 ∧ (x.1 = false → w0.heap.size ≤ k)) ∧ A h
section
variable {w0 w w' : World} {A B F : SP} {b i n : Nat} {t : TypeId} {cs : Array Value} {v u : Value} {o : Obj}
theorem Sat.start (w : World) : Sat w Emp w := ⟨Chg.refl _ _, fun _ => none, by simp, rfl⟩
theorem Sat.of (h : Sat w0 A w) (e : A = B) : Sat w0 B w := e ▸ h
theorem Sat.mono (h : Sat w0 A w) (e : ∀ h, A h → B h) : Sat w0 B w := let ⟨x, h1, h2⟩ := h.hp; ⟨h.chg, x, h1, e x h2⟩
theorem Sat.right (h : Sat w0 (A * F) w) : Sat w0 F w := by
  obtain ⟨_, h1, a, f, h2, rfl, _, hf⟩ := h.hp
  refine ⟨h.chg, f, fun k x hx => h1 k x ?_, hf⟩
  rcases h2 k with e | e | ⟨o, e1, e2⟩
  · show jn (a k) (f k) = _; rw [e]; exact hx
  · rw [e] at hx; cases hx
  · show jn (a k) (f k) = _; rw [e1]; rw [e2] at hx; exact hx
theorem Sat.left (h : Sat w0 (A * F) w) : Sat w0 A w := (h.of (star_comm _ _)).right
theorem Sat.size (h : Sat w0 A w) : w0.heap.size ≤ w.heap.size := h.chg.size
theorem Sat.frame (h : Sat w0 (A * F) w) (k : ∀ w0 w, Sat w0 A w → Sat w0 B w) : True := trivial
/-- What is new changes nothing of what is held. -/
theorem Sat.new (h : Sat w0 A w) (k : Chg No w w') : Sat w0 A w' := by
  obtain ⟨x, h1, h2⟩ := h.hp
  refine ⟨h.chg.tr k, x, fun b y hy => ⟨?_, (h1 b y hy).2⟩, h2⟩
  have := (h1 b y hy).1
  rw [k.block b (lt_of_block this) id]
  exact this
theorem Sat.drew (h : Sat w0 A w) : Sat w0 A w.drew := h.new (Chg.refl No w).drew
theorem Sat.drewN (h : Sat w0 A w) (n : Nat) : Sat w0 A (w.drewN n) := h.new ((Chg.refl No w).drewN n)
theorem Sat.alloc' (h : Sat w0 A w) (o : Obj) : Sat w0 A (w.alloc o) := h.new ((Chg.refl No w).alloc o)
/-- A block that is new may be held. -/
theorem Sat.take (h : Sat w0 F w) (k : Chg No w w') (hb : w.heap.size ≤ b) (ho : w'.heap[b]? = some o) : Sat w0 (Ow b o * F) w' := by
  have h' := h.new k
  obtain ⟨x, h1, h2⟩ := h.hp
  refine ⟨h'.chg, (one1 b (false, o)).un x, fun q y hy => ?_, _, x, fun q => ?_, rfl, rfl, h2⟩
  · unfold Hp.un one1 at hy
    by_cases e : q = b
    · subst e
      rw [if_pos rfl] at hy
      injection hy with hy
      subst hy
      exact ⟨ho, fun _ => Nat.le_trans h.size hb⟩
    · rw [if_neg e] at hy
      have := h1 q y hy
      refine ⟨?_, this.2⟩
      rw [k.block q (lt_of_block this.1) id]
      exact this.1
  · unfold one1
    by_cases e : q = b
    · right; left
      cases hx : x q with
      | none => rfl
      | some y => have := lt_of_block (h1 q y hx).1; omega
    · exact .inl (if_neg e)
theorem Sat.alloc (h : Sat w0 F w) (o : Obj) : Sat w0 (Ow w.heap.size o * F) (w.alloc o) := h.take ((Chg.refl No w).alloc o) (Nat.le_refl _) (heap_alloc_new w o)
theorem Sat.allocPt (h : Sat w0 F w) (t : TypeId) (cs : Array Value) : Sat w0 (Pt w.heap.size t cs * F) (w.alloc (.cells cs t)) := h.alloc _
theorem Sat.block (h : Sat w0 (Ow b o * F) w) : w.heap[b]? = some o := by
  obtain ⟨_, h1, a, f, h2, rfl, rfl, hf⟩ := h.hp
  exact (h1 b (false, o) (by unfold Hp.un one1 jn; simp)).1
theorem Sat.base (h : Sat w0 (Ow b o * F) w) : w0.heap.size ≤ b := by
  obtain ⟨_, h1, a, f, h2, rfl, rfl, hf⟩ := h.hp
  exact (h1 b (false, o) (by unfold Hp.un one1 jn; simp)).2 rfl
theorem Sat.at (h : Sat w0 (Pt b t cs * F) w) : At w b t cs := h.block
theorem Sat.cell (h : Sat w0 (Pt b t cs * F) w) (i : Nat) : w.cell? ⟨b, i, none⟩ = cs[i]? := h.at.cell i
theorem Sat.frozen (h : Sat w0 (Pt b t cs * F) w) (i : Nat) : w.frozen? ⟨b, i, none⟩ = false := h.at.frozen i
theorem Sat.lt (h : Sat w0 (Ow b o * F) w) : b < w.heap.size := lt_of_block h.block
theorem Sat.ne {b' : Nat} {o' : Obj} (h : Sat w0 (Ow b o * (Ow b' o' * F)) w) : b ≠ b' := by
  rintro rfl
  obtain ⟨_, h1, a, f, h2, rfl, rfl, a', f', h3, rfl, rfl, hf⟩ := h.hp
  have := h2 b
  unfold one1 Hp.un jn at this
  rcases this with e | e | ⟨q, e, _⟩
  · simp at e
  · simp at e
  · simp at e
/-- A block of one's own turns into another one, and nothing else that was there. -/
theorem Sat.turn {o' : Obj} (h : Sat w0 (Ow b o * F) w) (k : Chg (One b) w w') (ho : w'.heap[b]? = some o') : Sat w0 (Ow b o' * F) w' := by
  have hb := h.base
  obtain ⟨_, h1, a, f, h2, rfl, rfl, hf⟩ := h.hp
  refine ⟨h.chg.own k (fun i hi => by cases hi; exact hb), (one1 b (false, o')).un f, fun q y hy => ?_, _, f, fun q => ?_, rfl, rfl, hf⟩
  · unfold Hp.un one1 at hy
    by_cases e : q = b
    · subst e
      rw [if_pos rfl] at hy
      injection hy with hy
      subst hy
      exact ⟨ho, fun _ => hb⟩
    · rw [if_neg e] at hy
      have := h1 q y (by unfold Hp.un one1; rw [if_neg e]; exact hy)
      refine ⟨?_, this.2⟩
      rw [k.block q (lt_of_block this.1) e]
      exact this.1
  · by_cases e : q = b
    · right; left
      have := h2 q
      unfold one1 at this
      rw [if_pos e] at this
      rcases this with e | e | ⟨q, e, _⟩
      · cases e
      · exact e
      · simp at e
    · left; unfold one1; rw [if_neg e]
theorem Sat.set (h : Sat w0 (Pt b t cs * F) w) (i : Nat) (u : Value) : Sat w0 (Pt b t (cs.setIfInBounds i u) * F) (w.setCell ⟨b, i, none⟩ u) :=
  Sat.turn h ((Chg.refl (One b) w).setCell (p := ⟨b, i, none⟩) (fun _ => rfl) u) (h.at.set i u)
/-- What is held alone may be given to all, for good. -/
theorem Sat.give (h : Sat w0 (Pt b t cs * F) w) {o : Nat} {xs : List Value} (hx : ∀ j (hj : j < xs.length), cs[o + j]? = some xs[j]) : Sat w0 (Ro (some ⟨b, o, none⟩) xs * F) w := by
  obtain ⟨_, h1, a, f, h2, rfl, rfl, hf⟩ := h.hp
  have hn : f b = none := by
    have := h2 b
    unfold one1 at this
    rw [if_pos rfl] at this
    rcases this with e | e | ⟨q, e, _⟩
    · cases e
    · exact e
    · simp at e
  refine ⟨h.chg, (one1 b (true, .cells cs t (0, 0))).un f, fun q y hy => ?_, _, f, fun q => ?_, rfl, ⟨fun k x hx => ?_, fun _ => ⟨b, o, cs, t, (0, 0), rfl, by unfold one1; simp, hx⟩⟩, hf⟩
  · unfold Hp.un one1 at hy
    by_cases e : q = b
    · subst e
      rw [if_pos rfl] at hy
      injection hy with hy
      subst hy
      exact ⟨h.at, fun e => (by cases e)⟩
    · rw [if_neg e] at hy
      exact h1 q y (by unfold Hp.un one1; rw [if_neg e]; exact hy)
  · by_cases e : q = b
    · subst e; exact .inr (.inl hn)
    · left; unfold one1; rw [if_neg e]
  · unfold one1 at hx
    split at hx
    · injection hx with hx; subst hx; rfl
    · cases hx
theorem Sat.rdv {Ad : Option Addr} {xs : List Value} (h : Sat w0 (Ro Ad xs * F) w) : RdV w Ad xs := fun hx => by
  obtain ⟨_, h1, a, f, h2, rfl, ⟨ha, ha2⟩, hf⟩ := h.hp
  obtain ⟨b, o, cs, t, fr, rfl, hb, hc⟩ := ha2 hx
  refine ⟨b, o, rfl, fun j hj => ?_⟩
  have := (h1 b (true, .cells cs t fr) (by unfold Hp.un; rw [hb]; rfl)).1
  rw [cell_of_row w b (o + j) cs t fr this]
  exact hc j hj
theorem Sat.rd {Ad : Option Addr} {l : List UInt8} (h : Sat w0 (Rb Ad l * F) w) : Rd w Ad l := Sat.rdv h
theorem ro_dup (Ad : Option Addr) (xs : List Value) : Ro Ad xs * Ro Ad xs = Ro Ad xs := by
  funext h
  refine propext ⟨?_, fun hh => ⟨h, h, fun k => ?_, funext fun k => ?_, hh, hh⟩⟩
  · rintro ⟨a, b, h1, rfl, ⟨h2, h3⟩, h4, h5⟩
    refine ⟨fun k x hx => ?_, fun hx => ?_⟩
    · unfold Hp.un jn at hx
      cases ha : a k with
      | none => rw [ha] at hx; exact h4 k x hx
      | some y => rw [ha] at hx; injection hx with hx; subst hx; exact h2 k _ ha
    · obtain ⟨b', o, cs, t, fr, rfl, hb, hc⟩ := h3 hx
      exact ⟨b', o, cs, t, fr, rfl, by unfold Hp.un; rw [hb]; rfl, hc⟩
  · cases hk : h k with
    | none => exact .inl rfl
    | some x => have := hh.1 k x hk; obtain ⟨q, o⟩ := x; cases this; exact .inr (.inr ⟨o, rfl, rfl⟩)
  · unfold Hp.un jn; cases h k <;> rfl
theorem rb_dup (Ad : Option Addr) (l : List UInt8) : Rb Ad l * Rb Ad l = Rb Ad l := ro_dup _ _
theorem Sat.dup {Ad : Option Addr} {l : List UInt8} (h : Sat w0 (Rb Ad l * F) w) : Sat w0 (Rb Ad l * (Rb Ad l * F)) w := h.of (by rw [← star_assoc, rb_dup])
theorem ro_nil (Ad : Option Addr) : Emp = Emp * Emp := (star_emp Emp).symm
theorem Sat.roNil (h : Sat w0 F w) (Ad : Option Addr) : Sat w0 (Ro Ad [] * F) w :=
  (h.of (emp_star F).symm).mono fun x ⟨a, f, h1, h2, h3, h4⟩ => ⟨a, f, h1, h2, ⟨fun k y hy => (by unfold Emp at h3; rw [h3] at hy; cases hy), fun h => absurd rfl h⟩, h4⟩
/-- What was there at the start may be read for good. -/
theorem Sat.arg {Ad : Option Addr} {xs : List Value} (h : Sat w0 F w) (hr : RdV w0 Ad xs) : Sat w0 (Ro Ad xs * F) w := by
  by_cases hx : xs = []
  · subst hx; exact h.roNil Ad
  obtain ⟨b, o, rfl, hc⟩ := hr hx
  have hl := World.block_lt_of_cell? w0 _ (hc 0 (List.length_pos_iff.2 hx))
  have hl : b < w0.heap.size := hl
  obtain ⟨cs, t, fr, hb⟩ : ∃ cs t fr, w0.heap[b]? = some (.cells cs t fr) := by
    have h0 := hc 0 (List.length_pos_iff.2 hx)
    unfold World.cell? at h0
    split at h0
    · rename_i cs t fr he; exact ⟨cs, t, fr, he⟩
    · cases h0
  obtain ⟨x, h1, h2⟩ := h.hp
  have hw : w.heap[b]? = some (.cells cs t fr) := (h.chg.block b hl id).trans hb
  have hxb : x b = none ∨ x b = some (true, .cells cs t fr) := by
    cases hk : x b with
    | none => exact .inl rfl
    | some y =>
      obtain ⟨q, o'⟩ := y
      have := h1 b _ hk
      rw [hw] at this
      injection this.1 with e
      cases q with
      | false => have := this.2 rfl; omega
      | true => right; rw [e]
  refine ⟨h.chg, (one1 b (true, .cells cs t fr)).un x, fun q y hy => ?_, _, x, fun q => ?_, rfl, ⟨fun k y hy => ?_, fun _ => ⟨b, o, cs, t, fr, rfl, by unfold one1; simp, fun j hj => ?_⟩⟩, h2⟩
  · unfold Hp.un one1 at hy
    by_cases e : q = b
    · subst e
      rw [if_pos rfl] at hy
      injection hy with hy
      subst hy
      exact ⟨hw, fun e => (by cases e)⟩
    · rw [if_neg e] at hy
      exact h1 q y hy
  · by_cases e : q = b
    · subst e
      rcases hxb with e | e
      · exact .inr (.inl e)
      · exact .inr (.inr ⟨_, (by unfold one1; simp), e⟩)
    · left; unfold one1; rw [if_neg e]
  · unfold one1 at hy
    split at hy
    · injection hy with hy; subst hy; rfl
    · cases hy
  · rw [← cell_of_row w0 b (o + j) cs t fr hb]
    exact hc j hj
theorem Sat.argB {Ad : Option Addr} {l : List UInt8} (h : Sat w0 F w) (hr : Rd w0 Ad l) : Sat w0 (Rb Ad l * F) w := h.arg hr
/-- What a call has made of new memory, and nobody else holds. -/
theorem Sat.gotRo {e : TypeId} {v : Value} {n : Nat} {xs : List Value} (h : Sat w0 F w) (k : Chg No w w') (hown : w'.ownsRow w.heap.size e 1 v n xs) : ∃ Ad c, v = .slice Ad n c ∧ n ≤ c ∧ c ≤ maxLen ∧ Sat w0 (Ro Ad xs * F) w' := by
  by_cases hv : v = .slice none 0 0
  · subst hv
    obtain ⟨rfl, rfl⟩ := own_nil hown
    exact ⟨none, 0, rfl, Nat.le_refl _, Nat.zero_le _, (h.new k).roNil _⟩
  · obtain ⟨g, cap, cur, rfl, h2, h3, h4, h5, h6, h7⟩ := own_form hown hv
    refine ⟨_, _, rfl, h4, h5, Sat.give (h.take k h2 h3) (fun j hj => ?_)⟩
    rw [Nat.zero_add]; exact h7 j hj
theorem Sat.ex {α : Type} {B : α → SP} (h : Sat w0 (SP.ex B * F) w) : ∃ x, Sat w0 (B x * F) w := by
  obtain ⟨c, x, h1, a, f, h2, h3, ⟨y, h4⟩, h5⟩ := h
  exact ⟨y, c, x, h1, a, f, h2, h3, h4, h5⟩
theorem Sat.exI {α : Type} {B : α → SP} (x : α) (h : Sat w0 (B x * F) w) : Sat w0 (SP.ex B * F) w := h.mono fun y ⟨a, f, h2, h3, h5, h6⟩ => ⟨a, f, h2, h3, ⟨x, h5⟩, h6⟩
theorem Sat.pure {φ : Prop} (h : Sat w0 (SP.and φ A * F) w) : φ ∧ Sat w0 (A * F) w := by
  obtain ⟨c, x, h1, a, f, h2, h3, ⟨h4, h5⟩, h6⟩ := h
  exact ⟨h4, c, x, h1, a, f, h2, h3, h5, h6⟩
theorem Sat.pureI {φ : Prop} (p : φ) (h : Sat w0 (A * F) w) : Sat w0 (SP.and φ A * F) w := h.mono fun y ⟨a, f, h2, h3, h5, h6⟩ => ⟨a, f, h2, h3, ⟨p, h5⟩, h6⟩
theorem Sat.part (h : Sat w0 (Ow b o * F) w) : ∃ f, F f ∧ f b = none ∧ ∀ k x, f k = some x → w.heap[k]? = some x.2 ∧ (x.1 = false → w0.heap.size ≤ k) := by
  obtain ⟨_, h1, a, f, h2, rfl, rfl, hf⟩ := h.hp
  have hn : f b = none := by
    have := h2 b
    unfold one1 at this
    rw [if_pos rfl] at this
    rcases this with e | e | ⟨q, e, _⟩
    · cases e
    · exact e
    · simp at e
  refine ⟨f, hf, hn, fun k x hx => h1 k x ?_⟩
  unfold Hp.un one1
  by_cases e : k = b
  · rw [e, hn] at hx; cases hx
  · rw [if_neg e]; exact hx
/-- One is written on and let go, and a new one held. -/
theorem Sat.loseTake {b' : Nat} {o' : Obj} (h : Sat w0 (Ow b o * F) w) (k : Chg (One b) w w') (hb : w.heap.size ≤ b') (ho : w'.heap[b']? = some o') : Sat w0 (Ow b' o' * F) w' := by
  have hbase := h.base
  have hsz := h.size
  obtain ⟨f, hf, hn, h1⟩ := h.part
  refine ⟨h.chg.own k (fun i hi => by cases hi; exact hbase), (one1 b' (false, o')).un f, fun q y hy => ?_, _, f, fun q => ?_, rfl, rfl, hf⟩
  · unfold Hp.un one1 at hy
    by_cases e : q = b'
    · subst e
      rw [if_pos rfl] at hy
      injection hy with hy
      subst hy
      exact ⟨ho, fun _ => Nat.le_trans hsz hb⟩
    · rw [if_neg e] at hy
      have := h1 q y hy
      refine ⟨?_, this.2⟩
      rw [k.block q (lt_of_block this.1) (fun e => by have hy' : f q = some y := hy; rw [show q = b from e, hn] at hy'; cases hy')]
      exact this.1
  · unfold one1
    by_cases e : q = b'
    · right; left
      cases hx : f q with
      | none => rfl
      | some y => have := lt_of_block (h1 q y hx).1; omega
    · exact .inl (if_neg e)
/-- What one held is written on, and let go. -/
theorem Sat.lose (h : Sat w0 (Ow b o * F) w) (k : Chg (One b) w w') (hb : b < w'.heap.size) : Sat w0 F w' := by
  obtain ⟨o', ho⟩ : ∃ o', w'.heap[b]? = some o' := ⟨_, Array.getElem?_eq_getElem hb⟩
  exact (h.turn k ho).right

/-- A row of one's own, to be written on: nil, or from the head of a block. -/
def Row (e : TypeId) (size : Nat) (v : Value) (n : Nat) (xs : List Value) : SP := fun h => xs.length = n * size ∧
  ((v = .slice none 0 0 ∧ n = 0 ∧ Emp h) ∨ ∃ g cap cur, v = .slice (some ⟨g, 0, none⟩) n cap ∧ n ≤ cap ∧ cap ≤ maxLen ∧ cur.size = cap * size ∧ cur.toList.take (n * size) = xs ∧ Pt g e cur h)
variable {e : TypeId} {size m : Nat} {xs ys : List Value}
theorem Sat.row_cases (h : Sat w0 (Row e size v n xs * F) w) : xs.length = n * size ∧ ((v = .slice none 0 0 ∧ n = 0 ∧ Sat w0 F w) ∨
    ∃ g cap cur, v = .slice (some ⟨g, 0, none⟩) n cap ∧ n ≤ cap ∧ cap ≤ maxLen ∧ cur.size = cap * size ∧ cur.toList.take (n * size) = xs ∧ Sat w0 (Pt g e cur * F) w) := by
  obtain ⟨c, x, h1, a, f, h2, h3, ⟨hl, h4⟩, h5⟩ := h
  refine ⟨hl, ?_⟩
  rcases h4 with ⟨e1, e2, e3⟩ | ⟨g, cap, cur, e1, e2, e3, e4, e5, e6⟩
  · refine .inl ⟨e1, e2, ?_⟩
    have := Sat.mk (w0 := w0) (w := w) (A := Emp * F) c ⟨x, h1, a, f, h2, h3, e3, h5⟩
    exact this.of (emp_star F)
  · exact .inr ⟨g, cap, cur, e1, e2, e3, e4, e5, ⟨c, x, h1, a, f, h2, h3, e6, h5⟩⟩
theorem Sat.row_nil (h : Sat w0 F w) (e : TypeId) (size : Nat) : Sat w0 (Row e size (.slice none 0 0) 0 [] * F) w :=
  (h.of (emp_star F).symm).mono fun x ⟨a, f, h1, h2, h3, h4⟩ => ⟨a, f, h1, h2, ⟨by simp, .inl ⟨rfl, rfl, h3⟩⟩, h4⟩
theorem Sat.row_pt {g cap : Nat} {cur : Array Value} (h : Sat w0 (Pt g e cur * F) w) (h1 : n ≤ cap) (h2 : cap ≤ maxLen) (h3 : cur.size = cap * size) : Sat w0 (Row e size (.slice (some ⟨g, 0, none⟩) n cap) n (cur.toList.take (n * size)) * F) w :=
  h.mono fun x ⟨a, f, k1, k2, k3, k4⟩ => ⟨a, f, k1, k2, ⟨by rw [List.length_take, Array.length_toList, h3]; exact Nat.min_eq_left (Nat.mul_le_mul_right _ h1), .inr ⟨g, cap, cur, rfl, h1, h2, h3, rfl, k3⟩⟩, k4⟩
theorem Sat.row_own (h : Sat w0 (Row e size v n xs * F) w) : w.ownsRow w0.heap.size e size v n xs := by
  obtain ⟨hl, ⟨rfl, rfl, _⟩ | ⟨g, cap, cur, rfl, h1, h2, h3, h4, h5⟩⟩ := h.row_cases
  · exact ⟨hl, .inl ⟨rfl, rfl⟩⟩
  · exact ⟨hl, .inr ⟨g, cap, cur, rfl, h5.base, h5.block, h1, h2, h3, h4⟩⟩
/-- What a call has made of new memory. -/
theorem Sat.gotRow (h : Sat w0 F w) (k : Chg No w w') (hown : w'.ownsRow w.heap.size e size v n xs) : Sat w0 (Row e size v n xs * F) w' := by
  rcases hown.2 with ⟨rfl, rfl⟩ | ⟨g, cap, cur, rfl, h1, h2, h3, h4, h5, h6⟩
  · have : xs = [] := List.eq_nil_of_length_eq_zero (by simpa using hown.1)
    subst this
    exact (h.new k).row_nil e size
  · rw [← h6]
    exact Sat.row_pt (h.take k h1 h2) h3 h4 h5
/-- What an append leaves. -/
theorem Sat.appd {base : Nat} {v' : Value} (h : Sat w0 (Row e size v n xs * F) w) (k : Appd base e size w v n m ys v' w') : Sat w0 (Row e size v' (n + m) ys * F) w' := by
  have hown := k.own
  obtain ⟨hl, ⟨rfl, rfl, h1⟩ | ⟨g, cap, cur, rfl, h1, h2, h3, h4, h5⟩⟩ := h.row_cases
  · have kc : Chg No w w' := k.chg.mono fun i _ hi => by simp [Value.ownBlock] at hi
    refine h1.gotRow kc ?_
    refine ⟨hown.1, ?_⟩
    rcases hown.2 with h2 | ⟨g, cap, cur, rfl, _, r⟩
    · exact .inl h2
    · refine .inr ⟨g, cap, cur, rfl, ?_, r⟩
      rcases k.at_ with h3 | h3
      · simp [Value.ownBlock] at h3
      · simp [Value.ownBlock] at h3; omega
  · have kc : Chg (One g) w w' := k.chg.mono fun i _ hi => by simp [Value.ownBlock] at hi; exact hi
    rcases hown.2 with ⟨rfl, hz⟩ | ⟨g', cap', cur', rfl, _, e1, e2, e3, e4, e5⟩
    · exact absurd (k.nil.1 rfl).1 (by simp)
    · rw [← e5]
      refine Sat.row_pt ?_ e2 e3 e4
      rcases k.at_ with q | q
      · simp [Value.ownBlock] at q
        subst q
        exact h5.turn kc e1
      · simp [Value.ownBlock] at q
        subst q
        exact Sat.loseTake h5 kc (Nat.le_refl _) e1
/-- To be read on: where it lies, what it reads as. -/
theorem Sat.row_rd (h : Sat w0 (Row e 1 v n xs * F) w) : ∃ Ad c, v = .slice Ad n c ∧ RdV w Ad xs ∧ n ≤ c ∧ c ≤ maxLen := by
  obtain ⟨A, c, h1, h2, h3, h4, _⟩ := own_rd h.row_own
  exact ⟨A, c, h1, h2, h3, h4⟩
/-- Written no more. -/
theorem Sat.row_ro (h : Sat w0 (Row e 1 v n xs * F) w) : ∃ Ad c, v = .slice Ad n c ∧ n ≤ c ∧ c ≤ maxLen ∧ Sat w0 (Ro Ad xs * F) w := by
  obtain ⟨hl, ⟨rfl, rfl, h1⟩ | ⟨g, cap, cur, rfl, h1, h2, h3, h4, h5⟩⟩ := h.row_cases
  · have : xs = [] := List.eq_nil_of_length_eq_zero (by simpa using hl)
    subst this
    exact ⟨none, 0, rfl, Nat.le_refl _, Nat.zero_le _, h1.roNil _⟩
  · refine ⟨_, _, rfl, h1, h2, h5.give fun j hj => ?_⟩
    have : xs[j]? = some xs[j] := List.getElem?_eq_getElem hj
    rw [Nat.zero_add, ← this, ← h4, List.getElem?_take, if_pos (by omega)]
    simp
end
section
variable {w0 w : World} {A B C D E G F : SP}
/-! One part ahead of the others, and back. -/
theorem Sat.up2 (h : Sat w0 (A * (B * F)) w) : Sat w0 (B * (A * F)) w := h.of (star_left _ _ _)
theorem Sat.up3 (h : Sat w0 (A * (B * (C * F))) w) : Sat w0 (C * (A * (B * F))) w := h.of (by rw [star_left B C, star_left A C])
theorem Sat.up4 (h : Sat w0 (A * (B * (C * (D * F)))) w) : Sat w0 (D * (A * (B * (C * F)))) w := h.of (by rw [star_left C D, star_left B D, star_left A D])
theorem Sat.up5 (h : Sat w0 (A * (B * (C * (D * (E * F))))) w) : Sat w0 (E * (A * (B * (C * (D * F))))) w := h.of (by rw [star_left D E, star_left C E, star_left B E, star_left A E])
theorem Sat.up6 (h : Sat w0 (A * (B * (C * (D * (E * (G * F)))))) w) : Sat w0 (G * (A * (B * (C * (D * (E * F)))))) w := h.of (by rw [star_left E G, star_left D G, star_left C G, star_left B G, star_left A G])
theorem Sat.dn3 (h : Sat w0 (C * (A * (B * F))) w) : Sat w0 (A * (B * (C * F))) w := h.of (by rw [star_left B C, star_left A C])
theorem Sat.dn4 (h : Sat w0 (D * (A * (B * (C * F)))) w) : Sat w0 (A * (B * (C * (D * F)))) w := h.of (by rw [star_left C D, star_left B D, star_left A D])
theorem Sat.dn5 (h : Sat w0 (E * (A * (B * (C * (D * F))))) w) : Sat w0 (A * (B * (C * (D * (E * F))))) w := h.of (by rw [star_left D E, star_left C E, star_left B E, star_left A E])
theorem Sat.dn6 (h : Sat w0 (G * (A * (B * (C * (D * (E * F)))))) w) : Sat w0 (A * (B * (C * (D * (E * (G * F)))))) w := h.of (by rw [star_left E G, star_left D G, star_left C G, star_left B G, star_left A G])
theorem Sat.drop2 (h : Sat w0 (A * (B * F)) w) : Sat w0 (A * F) w := h.up2.right
end
end Go.Proofs.Ytaoenbjfkahdjaa
namespace Go.Proofs.Ytaoenbjfkahdjaa
open Go.RowKit
set_option linter.unusedVariables false
set_option maxRecDepth 100000

theorem info_u8 : (Try.prog.info? 5).map (fun i => (i.zero, i.size, i.bytes)) = some (some (.int .u8 0), 1, 1) := by kernel_rfl

/-- n noughts, as cells. -/
def noughts (n : Nat) : Array Value := ((List.replicate n (0 : UInt8)).map bv).toArray
theorem noughts_made (n : Nat) : madeCells #[.int .u8 0] n = noughts n := by
  apply Array.ext'
  apply List.ext_getElem?
  intro j
  simp [madeCells, noughts, List.getElem?_replicate]
  by_cases h : j < n
  · simp [h, bv]
    rw [Nat.mod_one]
    rfl
  · simp [h]
theorem make_bytes (n : Nat) (hn : n ≤ 140737488355330) (W : World) : (Instr.makeSlice 32 (.int .i64 (n : Int)) (.int .i64 (n : Int))).run Try.prog W =
    .ok (.slice (some ⟨W.heap.size, 0, none⟩) n n) (W.alloc (.cells (noughts n) 5)) := by
  obtain ⟨i0, hi, hz0, hz1, hz2⟩ := info_parts info_u8
  have hr := run_make (P := Try.prog) W 32 5 i0 _ Try.underlying32 hi hz0 .i64 .i64 n n (by omega) (by omega) (by rw [hz2]; omega) (by omega)
  have hc : (Value.int .u8 0).cells = #[.int .u8 0] := rfl
  simpa [hz1, hc, noughts_made] using hr
theorem make_512 (W : World) : (Instr.makeSlice 32 (.int .i64 512) (.int .i64 512)).run Try.prog W = .ok (.slice (some ⟨W.heap.size, 0, none⟩) 512 512) (W.alloc (.cells (noughts 512) 5)) := make_bytes 512 (by omega) W

theorem same_any (A B : Option Addr) (c d : Nat) (l r : List UInt8) (w : World) (ha : Rd w A l) (hb : Rd w B r) :
    Calls Try.prog 27 #[.slice A l.length c, .slice B r.length d] w fun e w' => e = .returned (.bool (l == r)) ∧ w = w' := by
  have h1 := ha.str (P := Try.prog) 32 9 5 Try.underlying32 Try.underlying5 Try.underlying9 c
  have h2 := hb.str (P := Try.prog) 32 9 5 Try.underlying32 Try.underlying5 Try.underlying9 d
  clear ha hb
  go_enter Try.func27, Try.ntmps27
  go_wp2
  go_ret
  exact ⟨rfl, rfl⟩

/-- Twin: a row of its own. -/
def Twinned (l : List UInt8) (w : World) (e : Ending) (w' : World) : Prop :=
  ∃ v, e = .returned v ∧ w'.ownsRow w.heap.size 5 1 v l.length (l.map bv) ∧ Chg No w w'
theorem twin_any (A : Option Addr) (c : Nat) (l : List UInt8) (w : World) (h : Rd w A l) (hl : l.length ≤ 140737488355328) :
    Calls Try.prog 78 #[.slice A l.length c] w (Twinned l w) := by
  obtain ⟨i0, hi, hz0, hz1, hz2⟩ := info_parts info_u8
  have hmax : l.length ≤ maxLen := by unfold maxLen; omega
  have HL := Lib.hid h
  clear h
  go_enter Try.func78, Try.ntmps78
  go_wp2_with (at_builtin; refine wpList_app rfl (.tmp 4) (.tmp 5) 32 rfl w.heap.size 5 i0 _ 1 1 Try.underlying32 hi hz0 hz1 hz2 rfl (by decide) (.slice none 0 0) 0 [] rfl (World.ownsRow_nil _ _ _ _) A l.length c (l.map bv) rfl HL.out (by simp) (bv_one l) (by omega) (by omega) (Nat.le_refl _) ?_; intro v1 w1 hap)
  go_ret
  have hown := hap.own
  refine ⟨v1, rfl, by simpa using hown, hap.old (Chg.refl No w) (World.ownsRow_nil w w.heap.size 5 1) (Nat.le_refl _)⟩
end Go.Proofs.Ytaoenbjfkahdjaa
namespace Go.Proofs.Ytaoenbjfkahdjaa
open Go.RowKit
set_option linter.unusedVariables false
set_option maxRecDepth 100000

/-- A slice of bytes: where it lies, its room, what it reads as. -/
abbrev Slc := Option Addr × Nat × List UInt8
/-- All of these may be read, for good. -/
def RoL (rs : List Slc) : SP := fun h => (∀ k x, h k = some x → x.1 = true) ∧ ∀ r ∈ rs, r.2.2 ≠ [] → ∃ b o cs t fr, r.1 = some ⟨b, o, none⟩ ∧ h b = some (true, .cells cs t fr) ∧ ∀ j (hj : j < r.2.2.length), cs[o + j]? = some (bv r.2.2[j])
section
variable {w0 w : World} {F : SP} {rs rs' : List Slc}
theorem rol_nil : RoL [] = fun h => ∀ k x, h k = some x → x.1 = true := by funext h; simp [RoL]
theorem rol_sub {h : Hp} (hr : RoL rs h) (hs : ∀ r ∈ rs', r ∈ rs) : RoL rs' h := ⟨hr.1, fun r hx => hr.2 r (hs r hx)⟩
theorem Sat.rol_sub (h : Sat w0 (RoL rs * F) w) (hs : ∀ r ∈ rs', r ∈ rs) : Sat w0 (RoL rs' * F) w := h.mono fun x ⟨a, f, h1, h2, h3, h4⟩ => ⟨a, f, h1, h2, Proofs.Ytaoenbjfkahdjaa.rol_sub h3 hs, h4⟩
theorem rol_dup (rs : List Slc) : RoL rs * RoL rs = RoL rs := by
  funext h
  refine propext ⟨?_, fun hh => ⟨h, h, fun k => ?_, funext fun k => ?_, hh, hh⟩⟩
  · rintro ⟨a, b, h1, rfl, ⟨h2, h3⟩, h4, h5⟩
    refine ⟨fun k x hx => ?_, fun r hr hx => ?_⟩
    · unfold Hp.un jn at hx
      cases ha : a k with
      | none => rw [ha] at hx; exact h4 k x hx
      | some y => rw [ha] at hx; injection hx with hx; subst hx; exact h2 k _ ha
    · obtain ⟨b', o, cs, t, fr, e, hb, hc⟩ := h3 r hr hx
      exact ⟨b', o, cs, t, fr, e, by unfold Hp.un; rw [hb]; rfl, hc⟩
  · cases hk : h k with
    | none => exact .inl rfl
    | some x => have := hh.1 k x hk; obtain ⟨q, o⟩ := x; cases this; exact .inr (.inr ⟨o, rfl, rfl⟩)
  · unfold Hp.un jn; cases h k <;> rfl
theorem rol_app (rs rs' : List Slc) : RoL rs * RoL rs' = RoL (rs ++ rs') := by
  funext h
  refine propext ⟨?_, fun hh => ?_⟩
  · rintro ⟨a, b, h1, rfl, ⟨h2, h3⟩, h4, h5⟩
    refine ⟨fun k x hx => ?_, fun r hr hx => ?_⟩
    · unfold Hp.un jn at hx
      cases ha : a k with
      | none => rw [ha] at hx; exact h4 k x hx
      | some y => rw [ha] at hx; injection hx with hx; subst hx; exact h2 k _ ha
    · rcases List.mem_append.1 hr with hr | hr
      · obtain ⟨b', o, cs, t, fr, e, hb, hc⟩ := h3 r hr hx
        exact ⟨b', o, cs, t, fr, e, by unfold Hp.un; rw [hb]; rfl, hc⟩
      · obtain ⟨b', o, cs, t, fr, e, hb, hc⟩ := h5 r hr hx
        refine ⟨b', o, cs, t, fr, e, ?_, hc⟩
        unfold Hp.un
        rcases h1 b' with q | q | ⟨ob, q1, q2⟩
        · rw [q, hb]; rfl
        · rw [q] at hb; cases hb
        · rw [q1, ← hb, q2]; rfl
  · have e := rol_dup (rs ++ rs')
    rw [← e] at hh
    obtain ⟨a, b, h1, h2, h3, h4⟩ := hh
    exact ⟨a, b, h1, h2, rol_sub h3 (fun r hr => List.mem_append_left _ hr), rol_sub h4 (fun r hr => List.mem_append_right _ hr)⟩
theorem Sat.rol (h : Sat w0 (RoL rs * F) w) {r : Slc} (hr : r ∈ rs) : Rd w r.1 r.2.2 := fun hx => by
  obtain ⟨_, h1, a, f, h2, rfl, ⟨ha, ha2⟩, hf⟩ := h.hp
  obtain ⟨b, o, cs, t, fr, e, hb, hc⟩ := ha2 r hr (by simpa using hx)
  refine ⟨b, o, e, fun j hj => ?_⟩
  have := (h1 b (true, .cells cs t fr) (by unfold Hp.un; rw [hb]; rfl)).1
  rw [cell_of_row w b (o + j) cs t fr this]
  simpa using hc j (by simpa using hj)
theorem Sat.rolNil (h : Sat w0 F w) (rs : List Slc) (hn : ∀ r ∈ rs, r.2.2 = []) : Sat w0 (RoL rs * F) w :=
  (h.of (emp_star F).symm).mono fun x ⟨a, f, h1, h2, h3, h4⟩ => ⟨a, f, h1, h2, ⟨fun k y hy => (by unfold Emp at h3; rw [h3] at hy; cases hy), fun r hr hx => absurd (hn r hr) hx⟩, h4⟩
theorem rb_rol (r : Slc) : Rb r.1 r.2.2 = RoL [r] := by
  funext h
  unfold Rb Ro RoL
  refine propext ⟨fun ⟨h1, h2⟩ => ⟨h1, fun q hq hx => ?_⟩, fun ⟨h1, h2⟩ => ⟨h1, fun hx => ?_⟩⟩
  · simp at hq
    subst hq
    obtain ⟨b, o, cs, t, fr, e, hb, hc⟩ := h2 (by simpa using hx)
    exact ⟨b, o, cs, t, fr, e, hb, fun j hj => by have := hc j (by simpa using hj); rwa [List.getElem_map] at this⟩
  · obtain ⟨b, o, cs, t, fr, e, hb, hc⟩ := h2 r (by simp) (by simpa using hx)
    exact ⟨b, o, cs, t, fr, e, hb, fun j hj => by rw [List.getElem_map]; exact hc j (by simpa using hj)⟩
theorem Sat.rol_add (h : Sat w0 (RoL rs * (RoL rs' * F)) w) : Sat w0 (RoL (rs ++ rs') * F) w := h.of (by rw [← star_assoc, rol_app])
theorem Sat.rol_split (h : Sat w0 (RoL rs * F) w) : Sat w0 (RoL rs * (RoL rs * F)) w := h.of (by rw [← star_assoc, rol_dup])
end

theorem Sat.allocAt {w0 w : World} {F : SP} {b : Nat} (h : Sat w0 F w) (t : TypeId) (cs : Array Value) (hb : b = w.heap.size) : Sat w0 (Pt b t cs * F) (w.alloc (.cells cs t)) := by subst hb; exact h.allocPt t cs
/-- A row that make has made. -/
theorem bytes_row {w0 w : World} {F : SP} {g n : Nat} (h : Sat w0 (Pt g 5 (noughts n) * F) w) (hn : n ≤ maxLen) : Sat w0 (Row 5 1 (.slice (some ⟨g, 0, none⟩) n n) (List.replicate n (0 : UInt8)).length ((List.replicate n (0 : UInt8)).map bv) * F) w := by
  have h1 := h.row_pt (n := n) (cap := n) (size := 1) (Nat.le_refl _) hn (by simp [noughts])
  have e : (noughts n).toList.take (n * 1) = (List.replicate n (0 : UInt8)).map bv := by
    unfold noughts
    rw [Nat.mul_one]
    exact List.take_of_length_le (by simp)
  rw [e] at h1
  rw [List.length_replicate]
  exact h1
theorem flat2 {α : Type} {f : α → List Value} (hf : ∀ x, (f x).length = 2) : ∀ (l : List α) (i j : Nat) (hi : i < l.length) (hj : j < 2), (l.flatMap f)[i * 2 + j]? = (f l[i])[j]?
  | [], i, j, hi, hj => by simp at hi
  | x :: l, 0, j, hi, hj => by
    rw [List.flatMap_cons, Nat.zero_mul, Nat.zero_add, List.getElem?_append_left (by rw [hf]; exact hj)]; rfl
  | x :: l, i + 1, j, hi, hj => by
    rw [List.flatMap_cons, List.getElem?_append_right (by rw [hf]; omega), hf]
    have := flat2 hf l i j (by simpa using hi) hj
    rw [show (i + 1) * 2 + j - 2 = i * 2 + j by omega, this]
    rfl
theorem flat2_len {α : Type} {f : α → List Value} (hf : ∀ x, (f x).length = 2) : ∀ (l : List α), (l.flatMap f).length = l.length * 2
  | [] => rfl
  | x :: l => by rw [List.flatMap_cons, List.length_append, hf, flat2_len hf l, List.length_cons]; omega
theorem flat2_set {α : Type} {f : α → List Value} (hf : ∀ x, (f x).length = 2) : ∀ (l : List α) (i : Nat) (x : α) (u v : Value), f x = [u, v] → i < l.length →
    ((l.flatMap f).toArray.setIfInBounds (i * 2) u).setIfInBounds (i * 2 + 1) v = ((l.set i x).flatMap f).toArray := by
  intro l i x u v hx hi
  apply Array.ext'
  apply List.ext_getElem?
  intro j
  have hl := flat2_len hf l
  have hl2 := flat2_len hf (l.set i x)
  rw [List.length_set] at hl2
  by_cases hj : j < l.length * 2
  · have h1 := flat2 hf l (j / 2) (j % 2) (by omega) (by omega)
    have h2 := flat2 hf (l.set i x) (j / 2) (j % 2) (by rw [List.length_set]; omega) (by omega)
    rw [show j / 2 * 2 + j % 2 = j by omega] at h1 h2
    simp only [List.setIfInBounds_toArray, List.getElem?_set, List.length_set, hl]
    rw [h2, h1, List.getElem_set]
    by_cases e : i = j / 2
    · rw [if_pos e, hx]
      rcases Nat.mod_two_eq_zero_or_one j with q | q
      · rw [if_neg (by omega), if_pos (by omega), if_pos (by omega), q]; rfl
      · rw [if_pos (by omega), if_pos (by omega), q]; rfl
    · rw [if_neg e, if_neg (by omega), if_neg (by omega)]
  · simp only [List.setIfInBounds_toArray]
    rw [List.getElem?_eq_none (by simp only [List.length_set]; omega), List.getElem?_eq_none (by omega)]
end Go.Proofs.Ytaoenbjfkahdjaa
namespace Go.Proofs.Ytaoenbjfkahdjaa
open Go.RowKit
set_option linter.unusedVariables false
set_option maxRecDepth 100000

/-- An element, as it is. -/
def heldR (v : Value) : Option (DataW Value × List MemPlace) := some (.held v, [])
/-- The datum D tells of each number what f tells. -/
def Says (D : DataW Value) (f : Int → Option Value) : Prop := ∀ i z, D.atKey (.int .i64 i) z = match f i with | some v => .held v | none => z
/-- Block b is a map of at most n entries that tells what f tells. -/
def MapP (P : Program) (k : TypeId) (b n : Nat) (f : Int → Option Value) : SP := fun h => ∃ es clock, Ow b (.map es clock) h ∧ Go.WideElems.Fit P k heldR es clock ∧ es.size ≤ n ∧ Says (.map ((es.toList.map (Go.WideElems.rg P k heldR)).foldr DataW.insert [])) f
def upd (f : Int → Option Value) (i : Int) (v : Value) : Int → Option Value := fun j => if j = i then some v else f j
section
variable {P : Program} {k t e : TypeId} {b n : Nat} {f : Int → Option Value} {w0 w w' : World} {F : SP} {D : DataW Value}
theorem Sat.map_cases (h : Sat w0 (MapP P k b n f * F) w) : ∃ es clock, Sat w0 (Ow b (.map es clock) * F) w ∧ Go.WideElems.Fit P k heldR es clock ∧ es.size ≤ n ∧ Says (.map ((es.toList.map (Go.WideElems.rg P k heldR)).foldr DataW.insert [])) f := by
  obtain ⟨c, x, h1, a, g, h2, h3, ⟨es, clock, h4, h5, h6, h7⟩, h8⟩ := h
  exact ⟨es, clock, ⟨c, x, h1, a, g, h2, h3, h4, h8⟩, h5, h6, h7⟩
theorem Sat.map_own (h : Sat w0 (MapP P k b n f * F) w) : ∃ D, w.ownsMap P k heldR b n D ∧ Says D f := by
  obtain ⟨es, clock, h1, h2, h3, h4⟩ := h.map_cases
  exact ⟨_, ⟨es, clock, h1.block, h2, h3, rfl⟩, h4⟩
theorem Sat.map_block (h : Sat w0 (MapP P k b n f * F) w) : ∃ o, Sat w0 (Ow b o * F) w := by
  obtain ⟨es, clock, h1, _⟩ := h.map_cases
  exact ⟨_, h1⟩
theorem Sat.mapI {es : Array MapEntry} {clock : Nat} (h : Sat w0 (Ow b (.map es clock) * F) w) (h5 : Go.WideElems.Fit P k heldR es clock) (h6 : es.size ≤ n)
    (h7 : Says (.map ((es.toList.map (Go.WideElems.rg P k heldR)).foldr DataW.insert [])) f) : Sat w0 (MapP P k b n f * F) w := by
  obtain ⟨c, x, h1, a, g, h2, h3, h4, h8⟩ := h
  exact ⟨c, x, h1, a, g, h2, h3, ⟨es, clock, h4, h5, h6, h7⟩, h8⟩
theorem Sat.map_turn (h : Sat w0 (MapP P k b n f * F) w) {w' : World} {n' : Nat} {f' : Int → Option Value} (k' : w.mapTurned w' b) (ho : w'.ownsMap P k heldR b n' D) (hs : Says D f') : Sat w0 (MapP P k b n' f' * F) w' := by
  obtain ⟨o, h1⟩ := h.map_block
  obtain ⟨es, clock, hb, hf, hn, rfl⟩ := ho
  refine Sat.mapI (h1.turn ?_ hb) hf hn hs
  exact (Chg.of_grown k'.grown).mono fun i _ hi => Option.some.inj hi
theorem says_none : Says (.map []) (fun _ => none) := fun i z => rfl
theorem Sat.map_new (h : Sat w0 F w) : Sat w0 (MapP P k w.heap.size 0 (fun _ => none) * F) (w.alloc (.map #[] 0)) := by
  obtain ⟨es, clock, hb, hf, hn, hd⟩ := World.ownsMap_made (H := Value) w P k heldR
  have h1 := h.alloc (.map #[] 0)
  have hb' := h1.block
  rw [hb] at hb'
  injection hb' with hb'
  injection hb' with e1 e2
  subst e1; subst e2
  exact Sat.mapI h1 hf hn (by simpa using says_none)
theorem fit_none (P : Program) (k : TypeId) (clock : Nat) : Go.WideElems.Fit P k heldR #[] clock := by
  refine ⟨by simp, ?_, by simp⟩
  constructor <;> simp
/-- clear. -/
theorem Sat.map_clear (h : Sat w0 (MapP P k b n f * F) w) (ht : P.underlying t = some (.map k e)) (ty : TypeId) : ∃ w', (Builtin.clear_ #[t] ty #[.map (some b)]).run P w = .ok (.tuple #[]) w' ∧ Sat w0 (MapP P k b 0 (fun _ => none) * F) w' ∧ Chg (One b) w w' := by
  obtain ⟨es, clock, h1, h2, h3, h4⟩ := h.map_cases
  have hb := h1.block
  have ho : (ChangeMaps.setBlock w b (.map #[] clock)).ownsMap P k heldR b 0 (.map []) := ⟨#[], clock, ChangeMaps.heap_setBlock_same hb _, fit_none _ _ _, by simp, by simp⟩
  have hk : w.mapTurned (ChangeMaps.setBlock w b (.map #[] clock)) b := ⟨es, clock, _, _, hb, rfl⟩
  refine ⟨_, ?_, h.map_turn hk ho says_none, (Chg.of_grown hk.grown).mono fun i _ hi => Option.some.inj hi⟩
  simp [Builtin.clear_, run_underlying ht, MapKept.run_getObj_map hb, MapKept.run_setObj_map (P := P) (.map #[] clock) hb, Result.andThen, ChangeMaps.setBlock]
theorem wf_i64 {i : Int} (h : -9223372036854775808 ≤ i ∧ i ≤ 9223372036854775807) : (Lit.int .i64 i).wf = true := by
  simp only [Lit.wf, Bool.and_eq_true, decide_eq_true_iff]
  exact h
/-- v, ok := m[i] -/
theorem Sat.map_look (h : Sat w0 (MapP P k b n f * F) w) (hk : P.underlying k = some (.int .i64)) (ht : P.underlying t = some (.map k e)) {z : Value} (hz : (zeroValue e).run P w = .ok z w) (i : Int) (hi : -9223372036854775808 ≤ i ∧ i ≤ 9223372036854775807) :
    (Instr.lookup t (.map (some b)) (.int .i64 i) true).run P w = .ok (.tuple #[(f i).getD z, .bool (f i).isSome]) w := by
  obtain ⟨D, ho, hs⟩ := h.map_own
  obtain ⟨v, ps, h1, h2⟩ := ho.look_ok (Maps.int_keyed hk) ht hz (zd := .held z) (zp := []) rfl (Maps.keyOf_int_mk hk (wf_i64 hi))
  rw [h1]
  unfold heldR at h2
  injection h2 with h2
  injection h2 with h2 _
  have h3 := hs i (.held z)
  cases hf : f i with
  | none =>
    rw [hf] at h3
    rw [← h2] at h3
    injection h3 with h3
    subst h3
    have : Maps.has D (.int .i64 i) = false := Maps.has_false_of_atKey fun z => by have := hs i z; rw [hf] at this; exact this
    rw [this]
    rfl
  | some u =>
    rw [hf] at h3
    rw [← h2] at h3
    injection h3 with h3
    subst h3
    have : Maps.has D (.int .i64 i) = true := Maps.has_true_of_atKey (y := .held v) fun z => by have := hs i z; rw [hf] at this; exact this
    rw [this]
    rfl
/-- m[i] = v -/
theorem Sat.map_store (h : Sat w0 (MapP P k b n f * F) w) (hk : P.underlying k = some (.int .i64)) (ht : P.underlying t = some (.map k e)) (i : Int) (hi : -9223372036854775808 ≤ i ∧ i ≤ 9223372036854775807) (v : Value) (hn : n < maxLen) :
    ∃ w', (Instr.mapUpdate t (.map (some b)) (.int .i64 i) v).run P w = .ok () w' ∧ Sat w0 (MapP P k b (n + 1) (upd f i v) * F) w' ∧ Chg (One b) w w' := by
  obtain ⟨D, ho, hs⟩ := h.map_own
  obtain ⟨w', h1, h2, h3⟩ := ho.store (Maps.int_keyed hk) ht hn (Maps.keyOf_int_mk hk (wf_i64 hi)) (val := v) (d := .held v) (ps := []) rfl
  refine ⟨w', h1, h.map_turn h3 h2 fun j z => ?_, (Chg.of_grown h3.grown).mono fun i _ hi => Option.some.inj hi⟩
  unfold upd
  by_cases e : j = i
  · subst e
    rw [if_pos rfl]
    exact Maps.atKey_put_same (ho.isMap) (by simp [WideAt.IsKeyLit]) _ _
  · rw [if_neg e]
    rw [Maps.atKey_put_other (fun q => e (by injection q))]
    exact hs j z
end
end Go.Proofs.Ytaoenbjfkahdjaa
