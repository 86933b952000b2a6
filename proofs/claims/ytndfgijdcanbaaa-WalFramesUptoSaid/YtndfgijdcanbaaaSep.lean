/- Memory in parts: what a world holds, part by part; a part that nobody writes any more may be held by many. Nothing here is of the program. -/
import Derived.Test.YtndfgijdcanbaaaLib
namespace Go.Proofs.Ytndfgijdcanbaaa
open Go.RowKit
set_option linter.unusedVariables false

/-- A part of the memory: blocks, each for good (true) or of the holder alone (false). -/
def Hp := Nat → Option (Bool × Obj)
def jn (x y : Option (Bool × Obj)) : Option (Bool × Obj) := match x with | some a => some a | none => y
def okk (x y : Option (Bool × Obj)) : Prop := x = none ∨ y = none ∨ ∃ o, x = some (true, o) ∧ y = some (true, o)
theorem okk.symm {x y} (h : okk x y) : okk y x := by
  rcases h with h | h | ⟨o, h1, h2⟩
  · exact .inr (.inl h)
  · exact .inl h
  · exact .inr (.inr ⟨o, h2, h1⟩)
theorem jn_comm {x y} (h : okk x y) : jn x y = jn y x := by
  rcases h with rfl | rfl | ⟨o, rfl, rfl⟩
  · cases y <;> rfl
  · cases x <;> rfl
  · rfl
theorem jn_assoc (x y z) : jn (jn x y) z = jn x (jn y z) := by cases x <;> rfl
theorem okk_left {x y z} (h : okk x y) (k : okk (jn x y) z) : okk y z ∧ okk x (jn y z) := by
  rcases h with rfl | rfl | ⟨o, rfl, rfl⟩
  · exact ⟨k, .inl rfl⟩
  · refine ⟨.inl rfl, ?_⟩
    cases x with
    | none => exact .inl rfl
    | some a => exact k
  · refine ⟨k, ?_⟩
    exact .inr (.inr ⟨o, rfl, rfl⟩)
theorem okk_right {x y z} (h : okk y z) (k : okk x (jn y z)) : okk x y ∧ okk (jn x y) z := by
  have := okk_left (x := z) (y := y) (z := x) h.symm (by rw [jn_comm h.symm]; exact k.symm)
  refine ⟨this.1.symm, ?_⟩
  rw [jn_comm this.1.symm]
  exact this.2.symm
def Hp.ok (a b : Hp) : Prop := ∀ k, okk (a k) (b k)
def Hp.un (a b : Hp) : Hp := fun k => jn (a k) (b k)
def SP := Hp → Prop
instance : Mul SP := ⟨fun A B => fun h => ∃ a b, a.ok b ∧ h = a.un b ∧ A a ∧ B b⟩
theorem star_def (A B : SP) (h : Hp) : (A * B) h = ∃ a b, a.ok b ∧ h = a.un b ∧ A a ∧ B b := rfl
theorem star_comm (A B : SP) : A * B = B * A := by
  have : ∀ A B : SP, ∀ h, (A * B) h → (B * A) h := fun A B h ⟨a, b, h1, h2, h3, h4⟩ =>
    ⟨b, a, fun k => (h1 k).symm, by rw [h2]; funext k; exact jn_comm (h1 k), h4, h3⟩
  funext h
  exact propext ⟨this A B h, this B A h⟩
theorem star_assoc (A B C : SP) : A * B * C = A * (B * C) := by
  funext h
  refine propext ⟨?_, ?_⟩
  · rintro ⟨x, c, h1, rfl, ⟨a, b, h2, rfl, ha, hb⟩, hc⟩
    exact ⟨a, b.un c, fun k => (okk_left (h2 k) (h1 k)).2, funext fun k => jn_assoc _ _ _, ha, b, c, fun k => (okk_left (h2 k) (h1 k)).1, rfl, hb, hc⟩
  · rintro ⟨a, x, h1, rfl, ha, b, c, h2, rfl, hb, hc⟩
    exact ⟨a.un b, c, fun k => (okk_right (h2 k) (h1 k)).2, funext fun k => (jn_assoc _ _ _).symm, ⟨a, b, fun k => (okk_right (h2 k) (h1 k)).1, rfl, ha, hb⟩, hc⟩
theorem star_left (A B C : SP) : A * (B * C) = B * (A * C) := by rw [← star_assoc, star_comm A B, star_assoc]
instance : Std.Associative (α := SP) (· * ·) := ⟨star_assoc⟩
instance : Std.Commutative (α := SP) (· * ·) := ⟨star_comm⟩

/-- Nothing. -/
def Emp : SP := fun h => h = fun _ => none
theorem star_emp (A : SP) : A * Emp = A := by
  funext h
  refine propext ⟨?_, fun ha => ⟨h, fun _ => none, fun k => .inr (.inl rfl), funext fun k => ?_, ha, rfl⟩⟩
  · rintro ⟨a, b, _, rfl, ha, rfl⟩
    have : a.un (fun _ => none) = a := funext fun k => by unfold Hp.un jn; cases a k <;> rfl
    rw [this]; exact ha
  · unfold Hp.un jn; cases h k <;> rfl
theorem emp_star (A : SP) : Emp * A = A := by rw [star_comm, star_emp]
def one1 (b : Nat) (x : Bool × Obj) : Hp := fun k => if k = b then some x else none
def SP.ex {α : Type} (B : α → SP) : SP := fun h => ∃ x, B x h
def SP.and (φ : Prop) (A : SP) : SP := fun h => φ ∧ A h
/-- A block of one's own, whatever it is. -/
def Ow (b : Nat) (o : Obj) : SP := fun h => h = one1 b (false, o)
/-- A block of cells of one's own. -/
def Pt (b : Nat) (t : TypeId) (cs : Array Value) : SP := Ow b (.cells cs t (0, 0))
/-- What reads as these values, for good. -/
def Ro (A : Option Addr) (xs : List Value) : SP := fun h => (∀ k x, h k = some x → x.1 = true) ∧ (xs ≠ [] → ∃ b o cs t fr, A = some ⟨b, o, none⟩ ∧ h b = some (true, .cells cs t fr) ∧ ∀ j (hj : j < xs.length), cs[o + j]? = some xs[j])
def Rb (A : Option Addr) (l : List UInt8) : SP := Ro A (l.map bv)

/-- The world w, come from w0 by writing nothing that was there, holds A. -/
structure Sat (w0 : World) (A : SP) (w : World) : Prop where
  chg : Chg No w0 w
  hp : ∃ h : Hp, (∀ k x, h k = some x → w.heap[k]? = some x.2 ∧ (x.1 = false → w0.heap.size ≤ k)) ∧ A h
section
variable {w0 w w' : World} {A B F : SP} {b i n : Nat} {t : TypeId} {cs : Array Value} {v u : Value} {o : Obj}
theorem Sat.start (w : World) : Sat w Emp w := ⟨Chg.refl _ _, fun _ => none, by simp, rfl⟩
theorem Sat.of (h : Sat w0 A w) (e : A = B) : Sat w0 B w := e ▸ h
theorem Sat.mono (h : Sat w0 A w) (e : ∀ h, A h → B h) : Sat w0 B w := let ⟨x, h1, h2⟩ := h.hp; ⟨h.chg, x, h1, e x h2⟩
theorem Sat.right (h : Sat w0 (A * F) w) : Sat w0 F w := by
  obtain ⟨_, h1, a, f, h2, rfl, _, hf⟩ := h.hp
  refine ⟨h.chg, f, fun k x hx => h1 k x ?_, hf⟩
  rcases h2 k with e | e | ⟨o, e1, e2⟩
  · show jn (a k) (f k) = _; rw [e]; exact hx
  · rw [e] at hx; cases hx
  · show jn (a k) (f k) = _; rw [e1]; rw [e2] at hx; exact hx
theorem Sat.left (h : Sat w0 (A * F) w) : Sat w0 A w := (h.of (star_comm _ _)).right
theorem Sat.size (h : Sat w0 A w) : w0.heap.size ≤ w.heap.size := h.chg.size
theorem Sat.frame (h : Sat w0 (A * F) w) (k : ∀ w0 w, Sat w0 A w → Sat w0 B w) : True := trivial
/-- What is new changes nothing of what is held. -/
theorem Sat.new (h : Sat w0 A w) (k : Chg No w w') : Sat w0 A w' := by
  obtain ⟨x, h1, h2⟩ := h.hp
  refine ⟨h.chg.tr k, x, fun b y hy => ⟨?_, (h1 b y hy).2⟩, h2⟩
  have := (h1 b y hy).1
  rw [k.block b (lt_of_block this) id]
  exact this
theorem Sat.drew (h : Sat w0 A w) : Sat w0 A w.drew := h.new (Chg.refl No w).drew
theorem Sat.drewN (h : Sat w0 A w) (n : Nat) : Sat w0 A (w.drewN n) := h.new ((Chg.refl No w).drewN n)
theorem Sat.alloc' (h : Sat w0 A w) (o : Obj) : Sat w0 A (w.alloc o) := h.new ((Chg.refl No w).alloc o)
/-- A block that is new may be held. -/
theorem Sat.take (h : Sat w0 F w) (k : Chg No w w') (hb : w.heap.size ≤ b) (ho : w'.heap[b]? = some o) : Sat w0 (Ow b o * F) w' := by
  have h' := h.new k
  obtain ⟨x, h1, h2⟩ := h.hp
  refine ⟨h'.chg, (one1 b (false, o)).un x, fun q y hy => ?_, _, x, fun q => ?_, rfl, rfl, h2⟩
  · unfold Hp.un one1 at hy
    by_cases e : q = b
    · subst e
      rw [if_pos rfl] at hy
      injection hy with hy
      subst hy
      exact ⟨ho, fun _ => Nat.le_trans h.size hb⟩
    · rw [if_neg e] at hy
      have := h1 q y hy
      refine ⟨?_, this.2⟩
      rw [k.block q (lt_of_block this.1) id]
      exact this.1
  · unfold one1
    by_cases e : q = b
    · right; left
      cases hx : x q with
      | none => rfl
      | some y => have := lt_of_block (h1 q y hx).1; omega
    · exact .inl (if_neg e)
theorem Sat.alloc (h : Sat w0 F w) (o : Obj) : Sat w0 (Ow w.heap.size o * F) (w.alloc o) := h.take ((Chg.refl No w).alloc o) (Nat.le_refl _) (heap_alloc_new w o)
theorem Sat.allocPt (h : Sat w0 F w) (t : TypeId) (cs : Array Value) : Sat w0 (Pt w.heap.size t cs * F) (w.alloc (.cells cs t)) := h.alloc _
theorem Sat.block (h : Sat w0 (Ow b o * F) w) : w.heap[b]? = some o := by
  obtain ⟨_, h1, a, f, h2, rfl, rfl, hf⟩ := h.hp
  exact (h1 b (false, o) (by unfold Hp.un one1 jn; simp)).1
theorem Sat.base (h : Sat w0 (Ow b o * F) w) : w0.heap.size ≤ b := by
  obtain ⟨_, h1, a, f, h2, rfl, rfl, hf⟩ := h.hp
  exact (h1 b (false, o) (by unfold Hp.un one1 jn; simp)).2 rfl
theorem Sat.at (h : Sat w0 (Pt b t cs * F) w) : At w b t cs := h.block
theorem Sat.cell (h : Sat w0 (Pt b t cs * F) w) (i : Nat) : w.cell? ⟨b, i, none⟩ = cs[i]? := h.at.cell i
theorem Sat.frozen (h : Sat w0 (Pt b t cs * F) w) (i : Nat) : w.frozen? ⟨b, i, none⟩ = false := h.at.frozen i
theorem Sat.lt (h : Sat w0 (Ow b o * F) w) : b < w.heap.size := lt_of_block h.block
theorem Sat.ne {b' : Nat} {o' : Obj} (h : Sat w0 (Ow b o * (Ow b' o' * F)) w) : b ≠ b' := by
  rintro rfl
  obtain ⟨_, h1, a, f, h2, rfl, rfl, a', f', h3, rfl, rfl, hf⟩ := h.hp
  have := h2 b
  unfold one1 Hp.un jn at this
  rcases this with e | e | ⟨q, e, _⟩
  · simp at e
  · simp at e
  · simp at e
/-- A block of one's own turns into another one, and nothing else that was there. -/
theorem Sat.turn {o' : Obj} (h : Sat w0 (Ow b o * F) w) (k : Chg (One b) w w') (ho : w'.heap[b]? = some o') : Sat w0 (Ow b o' * F) w' := by
  have hb := h.base
  obtain ⟨_, h1, a, f, h2, rfl, rfl, hf⟩ := h.hp
  refine ⟨h.chg.own k (fun i hi => by cases hi; exact hb), (one1 b (false, o')).un f, fun q y hy => ?_, _, f, fun q => ?_, rfl, rfl, hf⟩
  · unfold Hp.un one1 at hy
    by_cases e : q = b
    · subst e
      rw [if_pos rfl] at hy
      injection hy with hy
      subst hy
      exact ⟨ho, fun _ => hb⟩
    · rw [if_neg e] at hy
      have := h1 q y (by unfold Hp.un one1; rw [if_neg e]; exact hy)
      refine ⟨?_, this.2⟩
      rw [k.block q (lt_of_block this.1) e]
      exact this.1
  · by_cases e : q = b
    · right; left
      have := h2 q
      unfold one1 at this
      rw [if_pos e] at this
      rcases this with e | e | ⟨q, e, _⟩
      · cases e
      · exact e
      · simp at e
    · left; unfold one1; rw [if_neg e]
theorem Sat.set (h : Sat w0 (Pt b t cs * F) w) (i : Nat) (u : Value) : Sat w0 (Pt b t (cs.setIfInBounds i u) * F) (w.setCell ⟨b, i, none⟩ u) :=
  Sat.turn h ((Chg.refl (One b) w).setCell (p := ⟨b, i, none⟩) (fun _ => rfl) u) (h.at.set i u)
/-- What is held alone may be given to all, for good. -/
theorem Sat.give (h : Sat w0 (Pt b t cs * F) w) {o : Nat} {xs : List Value} (hx : ∀ j (hj : j < xs.length), cs[o + j]? = some xs[j]) : Sat w0 (Ro (some ⟨b, o, none⟩) xs * F) w := by
  obtain ⟨_, h1, a, f, h2, rfl, rfl, hf⟩ := h.hp
  have hn : f b = none := by
    have := h2 b
    unfold one1 at this
    rw [if_pos rfl] at this
    rcases this with e | e | ⟨q, e, _⟩
    · cases e
    · exact e
    · simp at e
  refine ⟨h.chg, (one1 b (true, .cells cs t (0, 0))).un f, fun q y hy => ?_, _, f, fun q => ?_, rfl, ⟨fun k x hx => ?_, fun _ => ⟨b, o, cs, t, (0, 0), rfl, by unfold one1; simp, hx⟩⟩, hf⟩
  · unfold Hp.un one1 at hy
    by_cases e : q = b
    · subst e
      rw [if_pos rfl] at hy
      injection hy with hy
      subst hy
      exact ⟨h.at, fun e => (by cases e)⟩
    · rw [if_neg e] at hy
      exact h1 q y (by unfold Hp.un one1; rw [if_neg e]; exact hy)
  · by_cases e : q = b
    · subst e; exact .inr (.inl hn)
    · left; unfold one1; rw [if_neg e]
  · unfold one1 at hx
    split at hx
    · injection hx with hx; subst hx; rfl
    · cases hx
theorem Sat.rdv {Ad : Option Addr} {xs : List Value} (h : Sat w0 (Ro Ad xs * F) w) : RdV w Ad xs := fun hx => by
  obtain ⟨_, h1, a, f, h2, rfl, ⟨ha, ha2⟩, hf⟩ := h.hp
  obtain ⟨b, o, cs, t, fr, rfl, hb, hc⟩ := ha2 hx
  refine ⟨b, o, rfl, fun j hj => ?_⟩
  have := (h1 b (true, .cells cs t fr) (by unfold Hp.un; rw [hb]; rfl)).1
  rw [cell_of_row w b (o + j) cs t fr this]
  exact hc j hj
theorem Sat.rd {Ad : Option Addr} {l : List UInt8} (h : Sat w0 (Rb Ad l * F) w) : Rd w Ad l := Sat.rdv h
theorem ro_dup (Ad : Option Addr) (xs : List Value) : Ro Ad xs * Ro Ad xs = Ro Ad xs := by
  funext h
  refine propext ⟨?_, fun hh => ⟨h, h, fun k => ?_, funext fun k => ?_, hh, hh⟩⟩
  · rintro ⟨a, b, h1, rfl, ⟨h2, h3⟩, h4, h5⟩
    refine ⟨fun k x hx => ?_, fun hx => ?_⟩
    · unfold Hp.un jn at hx
      cases ha : a k with
      | none => rw [ha] at hx; exact h4 k x hx
      | some y => rw [ha] at hx; injection hx with hx; subst hx; exact h2 k _ ha
    · obtain ⟨b', o, cs, t, fr, rfl, hb, hc⟩ := h3 hx
      exact ⟨b', o, cs, t, fr, rfl, by unfold Hp.un; rw [hb]; rfl, hc⟩
  · cases hk : h k with
    | none => exact .inl rfl
    | some x => have := hh.1 k x hk; obtain ⟨q, o⟩ := x; cases this; exact .inr (.inr ⟨o, rfl, rfl⟩)
  · unfold Hp.un jn; cases h k <;> rfl
theorem rb_dup (Ad : Option Addr) (l : List UInt8) : Rb Ad l * Rb Ad l = Rb Ad l := ro_dup _ _
theorem Sat.dup {Ad : Option Addr} {l : List UInt8} (h : Sat w0 (Rb Ad l * F) w) : Sat w0 (Rb Ad l * (Rb Ad l * F)) w := h.of (by rw [← star_assoc, rb_dup])
theorem ro_nil (Ad : Option Addr) : Emp = Emp * Emp := (star_emp Emp).symm
theorem Sat.roNil (h : Sat w0 F w) (Ad : Option Addr) : Sat w0 (Ro Ad [] * F) w :=
  (h.of (emp_star F).symm).mono fun x ⟨a, f, h1, h2, h3, h4⟩ => ⟨a, f, h1, h2, ⟨fun k y hy => (by unfold Emp at h3; rw [h3] at hy; cases hy), fun h => absurd rfl h⟩, h4⟩
/-- What was there at the start may be read for good. -/
theorem Sat.arg {Ad : Option Addr} {xs : List Value} (h : Sat w0 F w) (hr : RdV w0 Ad xs) : Sat w0 (Ro Ad xs * F) w := by
  by_cases hx : xs = []
  · subst hx; exact h.roNil Ad
  obtain ⟨b, o, rfl, hc⟩ := hr hx
  have hl := World.block_lt_of_cell? w0 _ (hc 0 (List.length_pos_iff.2 hx))
  have hl : b < w0.heap.size := hl
  obtain ⟨cs, t, fr, hb⟩ : ∃ cs t fr, w0.heap[b]? = some (.cells cs t fr) := by
    have h0 := hc 0 (List.length_pos_iff.2 hx)
    unfold World.cell? at h0
    split at h0
    · rename_i cs t fr he; exact ⟨cs, t, fr, he⟩
    · cases h0
  obtain ⟨x, h1, h2⟩ := h.hp
  have hw : w.heap[b]? = some (.cells cs t fr) := (h.chg.block b hl id).trans hb
  have hxb : x b = none ∨ x b = some (true, .cells cs t fr) := by
    cases hk : x b with
    | none => exact .inl rfl
    | some y =>
      obtain ⟨q, o'⟩ := y
      have := h1 b _ hk
      rw [hw] at this
      injection this.1 with e
      cases q with
      | false => have := this.2 rfl; omega
      | true => right; rw [e]
  refine ⟨h.chg, (one1 b (true, .cells cs t fr)).un x, fun q y hy => ?_, _, x, fun q => ?_, rfl, ⟨fun k y hy => ?_, fun _ => ⟨b, o, cs, t, fr, rfl, by unfold one1; simp, fun j hj => ?_⟩⟩, h2⟩
  · unfold Hp.un one1 at hy
    by_cases e : q = b
    · subst e
      rw [if_pos rfl] at hy
      injection hy with hy
      subst hy
      exact ⟨hw, fun e => (by cases e)⟩
    · rw [if_neg e] at hy
      exact h1 q y hy
  · by_cases e : q = b
    · subst e
      rcases hxb with e | e
      · exact .inr (.inl e)
      · exact .inr (.inr ⟨_, (by unfold one1; simp), e⟩)
    · left; unfold one1; rw [if_neg e]
  · unfold one1 at hy
    split at hy
    · injection hy with hy; subst hy; rfl
    · cases hy
  · rw [← cell_of_row w0 b (o + j) cs t fr hb]
    exact hc j hj
theorem Sat.argB {Ad : Option Addr} {l : List UInt8} (h : Sat w0 F w) (hr : Rd w0 Ad l) : Sat w0 (Rb Ad l * F) w := h.arg hr
/-- What a call has made of new memory, and nobody else holds. -/
theorem Sat.gotRo {e : TypeId} {v : Value} {n : Nat} {xs : List Value} (h : Sat w0 F w) (k : Chg No w w') (hown : w'.ownsRow w.heap.size e 1 v n xs) : ∃ Ad c, v = .slice Ad n c ∧ n ≤ c ∧ c ≤ maxLen ∧ Sat w0 (Ro Ad xs * F) w' := by
  by_cases hv : v = .slice none 0 0
  · subst hv
    obtain ⟨rfl, rfl⟩ := own_nil hown
    exact ⟨none, 0, rfl, Nat.le_refl _, Nat.zero_le _, (h.new k).roNil _⟩
  · obtain ⟨g, cap, cur, rfl, h2, h3, h4, h5, h6, h7⟩ := own_form hown hv
    refine ⟨_, _, rfl, h4, h5, Sat.give (h.take k h2 h3) (fun j hj => ?_)⟩
    rw [Nat.zero_add]; exact h7 j hj
theorem Sat.ex {α : Type} {B : α → SP} (h : Sat w0 (SP.ex B * F) w) : ∃ x, Sat w0 (B x * F) w := by
  obtain ⟨c, x, h1, a, f, h2, h3, ⟨y, h4⟩, h5⟩ := h
  exact ⟨y, c, x, h1, a, f, h2, h3, h4, h5⟩
theorem Sat.exI {α : Type} {B : α → SP} (x : α) (h : Sat w0 (B x * F) w) : Sat w0 (SP.ex B * F) w := h.mono fun y ⟨a, f, h2, h3, h5, h6⟩ => ⟨a, f, h2, h3, ⟨x, h5⟩, h6⟩
theorem Sat.pure {φ : Prop} (h : Sat w0 (SP.and φ A * F) w) : φ ∧ Sat w0 (A * F) w := by
  obtain ⟨c, x, h1, a, f, h2, h3, ⟨h4, h5⟩, h6⟩ := h
  exact ⟨h4, c, x, h1, a, f, h2, h3, h5, h6⟩
theorem Sat.pureI {φ : Prop} (p : φ) (h : Sat w0 (A * F) w) : Sat w0 (SP.and φ A * F) w := h.mono fun y ⟨a, f, h2, h3, h5, h6⟩ => ⟨a, f, h2, h3, ⟨p, h5⟩, h6⟩
theorem Sat.part (h : Sat w0 (Ow b o * F) w) : ∃ f, F f ∧ f b = none ∧ ∀ k x, f k = some x → w.heap[k]? = some x.2 ∧ (x.1 = false → w0.heap.size ≤ k) := by
  obtain ⟨_, h1, a, f, h2, rfl, rfl, hf⟩ := h.hp
  have hn : f b = none := by
    have := h2 b
    unfold one1 at this
    rw [if_pos rfl] at this
    rcases this with e | e | ⟨q, e, _⟩
    · cases e
    · exact e
    · simp at e
  refine ⟨f, hf, hn, fun k x hx => h1 k x ?_⟩
  unfold Hp.un one1
  by_cases e : k = b
  · rw [e, hn] at hx; cases hx
  · rw [if_neg e]; exact hx
/-- One is written on and let go, and a new one held. -/
theorem Sat.loseTake {b' : Nat} {o' : Obj} (h : Sat w0 (Ow b o * F) w) (k : Chg (One b) w w') (hb : w.heap.size ≤ b') (ho : w'.heap[b']? = some o') : Sat w0 (Ow b' o' * F) w' := by
  have hbase := h.base
  have hsz := h.size
  obtain ⟨f, hf, hn, h1⟩ := h.part
  refine ⟨h.chg.own k (fun i hi => by cases hi; exact hbase), (one1 b' (false, o')).un f, fun q y hy => ?_, _, f, fun q => ?_, rfl, rfl, hf⟩
  · unfold Hp.un one1 at hy
    by_cases e : q = b'
    · subst e
      rw [if_pos rfl] at hy
      injection hy with hy
      subst hy
      exact ⟨ho, fun _ => Nat.le_trans hsz hb⟩
    · rw [if_neg e] at hy
      have := h1 q y hy
      refine ⟨?_, this.2⟩
      rw [k.block q (lt_of_block this.1) (fun e => by have hy' : f q = some y := hy; rw [show q = b from e, hn] at hy'; cases hy')]
      exact this.1
  · unfold one1
    by_cases e : q = b'
    · right; left
      cases hx : f q with
      | none => rfl
      | some y => have := lt_of_block (h1 q y hx).1; omega
    · exact .inl (if_neg e)
/-- What one held is written on, and let go. -/
theorem Sat.lose (h : Sat w0 (Ow b o * F) w) (k : Chg (One b) w w') (hb : b < w'.heap.size) : Sat w0 F w' := by
  obtain ⟨o', ho⟩ : ∃ o', w'.heap[b]? = some o' := ⟨_, Array.getElem?_eq_getElem hb⟩
  exact (h.turn k ho).right

/-- A row of one's own, to be written on: nil, or from the head of a block. -/
def Row (e : TypeId) (size : Nat) (v : Value) (n : Nat) (xs : List Value) : SP := fun h => xs.length = n * size ∧
  ((v = .slice none 0 0 ∧ n = 0 ∧ Emp h) ∨ ∃ g cap cur, v = .slice (some ⟨g, 0, none⟩) n cap ∧ n ≤ cap ∧ cap ≤ maxLen ∧ cur.size = cap * size ∧ cur.toList.take (n * size) = xs ∧ Pt g e cur h)
variable {e : TypeId} {size m : Nat} {xs ys : List Value}
theorem Sat.row_cases (h : Sat w0 (Row e size v n xs * F) w) : xs.length = n * size ∧ ((v = .slice none 0 0 ∧ n = 0 ∧ Sat w0 F w) ∨
    ∃ g cap cur, v = .slice (some ⟨g, 0, none⟩) n cap ∧ n ≤ cap ∧ cap ≤ maxLen ∧ cur.size = cap * size ∧ cur.toList.take (n * size) = xs ∧ Sat w0 (Pt g e cur * F) w) := by
  obtain ⟨c, x, h1, a, f, h2, h3, ⟨hl, h4⟩, h5⟩ := h
  refine ⟨hl, ?_⟩
  rcases h4 with ⟨e1, e2, e3⟩ | ⟨g, cap, cur, e1, e2, e3, e4, e5, e6⟩
  · refine .inl ⟨e1, e2, ?_⟩
    have := Sat.mk (w0 := w0) (w := w) (A := Emp * F) c ⟨x, h1, a, f, h2, h3, e3, h5⟩
    exact this.of (emp_star F)
  · exact .inr ⟨g, cap, cur, e1, e2, e3, e4, e5, ⟨c, x, h1, a, f, h2, h3, e6, h5⟩⟩
theorem Sat.row_nil (h : Sat w0 F w) (e : TypeId) (size : Nat) : Sat w0 (Row e size (.slice none 0 0) 0 [] * F) w :=
  (h.of (emp_star F).symm).mono fun x ⟨a, f, h1, h2, h3, h4⟩ => ⟨a, f, h1, h2, ⟨by simp, .inl ⟨rfl, rfl, h3⟩⟩, h4⟩
theorem Sat.row_pt {g cap : Nat} {cur : Array Value} (h : Sat w0 (Pt g e cur * F) w) (h1 : n ≤ cap) (h2 : cap ≤ maxLen) (h3 : cur.size = cap * size) : Sat w0 (Row e size (.slice (some ⟨g, 0, none⟩) n cap) n (cur.toList.take (n * size)) * F) w :=
  h.mono fun x ⟨a, f, k1, k2, k3, k4⟩ => ⟨a, f, k1, k2, ⟨by rw [List.length_take, Array.length_toList, h3]; exact Nat.min_eq_left (Nat.mul_le_mul_right _ h1), .inr ⟨g, cap, cur, rfl, h1, h2, h3, rfl, k3⟩⟩, k4⟩
theorem Sat.row_own (h : Sat w0 (Row e size v n xs * F) w) : w.ownsRow w0.heap.size e size v n xs := by
  obtain ⟨hl, ⟨rfl, rfl, _⟩ | ⟨g, cap, cur, rfl, h1, h2, h3, h4, h5⟩⟩ := h.row_cases
  · exact ⟨hl, .inl ⟨rfl, rfl⟩⟩
  · exact ⟨hl, .inr ⟨g, cap, cur, rfl, h5.base, h5.block, h1, h2, h3, h4⟩⟩
/-- What a call has made of new memory. -/
theorem Sat.gotRow (h : Sat w0 F w) (k : Chg No w w') (hown : w'.ownsRow w.heap.size e size v n xs) : Sat w0 (Row e size v n xs * F) w' := by
  rcases hown.2 with ⟨rfl, rfl⟩ | ⟨g, cap, cur, rfl, h1, h2, h3, h4, h5, h6⟩
  · have : xs = [] := List.eq_nil_of_length_eq_zero (by simpa using hown.1)
    subst this
    exact (h.new k).row_nil e size
  · rw [← h6]
    exact Sat.row_pt (h.take k h1 h2) h3 h4 h5
/-- What an append leaves. -/
theorem Sat.appd {base : Nat} {v' : Value} (h : Sat w0 (Row e size v n xs * F) w) (k : Appd base e size w v n m ys v' w') : Sat w0 (Row e size v' (n + m) ys * F) w' := by
  have hown := k.own
  obtain ⟨hl, ⟨rfl, rfl, h1⟩ | ⟨g, cap, cur, rfl, h1, h2, h3, h4, h5⟩⟩ := h.row_cases
  · have kc : Chg No w w' := k.chg.mono fun i _ hi => by simp [Value.ownBlock] at hi
    refine h1.gotRow kc ?_
    refine ⟨hown.1, ?_⟩
    rcases hown.2 with h2 | ⟨g, cap, cur, rfl, _, r⟩
    · exact .inl h2
    · refine .inr ⟨g, cap, cur, rfl, ?_, r⟩
      rcases k.at_ with h3 | h3
      · simp [Value.ownBlock] at h3
      · simp [Value.ownBlock] at h3; omega
  · have kc : Chg (One g) w w' := k.chg.mono fun i _ hi => by simp [Value.ownBlock] at hi; exact hi
    rcases hown.2 with ⟨rfl, hz⟩ | ⟨g', cap', cur', rfl, _, e1, e2, e3, e4, e5⟩
    · exact absurd (k.nil.1 rfl).1 (by simp)
    · rw [← e5]
      refine Sat.row_pt ?_ e2 e3 e4
      rcases k.at_ with q | q
      · simp [Value.ownBlock] at q
        subst q
        exact h5.turn kc e1
      · simp [Value.ownBlock] at q
        subst q
        exact Sat.loseTake h5 kc (Nat.le_refl _) e1
/-- To be read on: where it lies, what it reads as. -/
theorem Sat.row_rd (h : Sat w0 (Row e 1 v n xs * F) w) : ∃ Ad c, v = .slice Ad n c ∧ RdV w Ad xs ∧ n ≤ c ∧ c ≤ maxLen := by
  obtain ⟨A, c, h1, h2, h3, h4, _⟩ := own_rd h.row_own
  exact ⟨A, c, h1, h2, h3, h4⟩
/-- Written no more. -/
theorem Sat.row_ro (h : Sat w0 (Row e 1 v n xs * F) w) : ∃ Ad c, v = .slice Ad n c ∧ n ≤ c ∧ c ≤ maxLen ∧ Sat w0 (Ro Ad xs * F) w := by
  obtain ⟨hl, ⟨rfl, rfl, h1⟩ | ⟨g, cap, cur, rfl, h1, h2, h3, h4, h5⟩⟩ := h.row_cases
  · have : xs = [] := List.eq_nil_of_length_eq_zero (by simpa using hl)
    subst this
    exact ⟨none, 0, rfl, Nat.le_refl _, Nat.zero_le _, h1.roNil _⟩
  · refine ⟨_, _, rfl, h1, h2, h5.give fun j hj => ?_⟩
    have : xs[j]? = some xs[j] := List.getElem?_eq_getElem hj
    rw [Nat.zero_add, ← this, ← h4, List.getElem?_take, if_pos (by omega)]
    simp
end
section
variable {w0 w : World} {A B C D E G F : SP}
/-! One part ahead of the others, and back. -/
theorem Sat.up2 (h : Sat w0 (A * (B * F)) w) : Sat w0 (B * (A * F)) w := h.of (star_left _ _ _)
theorem Sat.up3 (h : Sat w0 (A * (B * (C * F))) w) : Sat w0 (C * (A * (B * F))) w := h.of (by rw [star_left B C, star_left A C])
theorem Sat.up4 (h : Sat w0 (A * (B * (C * (D * F)))) w) : Sat w0 (D * (A * (B * (C * F)))) w := h.of (by rw [star_left C D, star_left B D, star_left A D])
theorem Sat.up5 (h : Sat w0 (A * (B * (C * (D * (E * F))))) w) : Sat w0 (E * (A * (B * (C * (D * F))))) w := h.of (by rw [star_left D E, star_left C E, star_left B E, star_left A E])
theorem Sat.up6 (h : Sat w0 (A * (B * (C * (D * (E * (G * F)))))) w) : Sat w0 (G * (A * (B * (C * (D * (E * F)))))) w := h.of (by rw [star_left E G, star_left D G, star_left C G, star_left B G, star_left A G])
theorem Sat.dn3 (h : Sat w0 (C * (A * (B * F))) w) : Sat w0 (A * (B * (C * F))) w := h.of (by rw [star_left B C, star_left A C])
theorem Sat.dn4 (h : Sat w0 (D * (A * (B * (C * F)))) w) : Sat w0 (A * (B * (C * (D * F)))) w := h.of (by rw [star_left C D, star_left B D, star_left A D])
theorem Sat.dn5 (h : Sat w0 (E * (A * (B * (C * (D * F))))) w) : Sat w0 (A * (B * (C * (D * (E * F))))) w := h.of (by rw [star_left D E, star_left C E, star_left B E, star_left A E])
theorem Sat.dn6 (h : Sat w0 (G * (A * (B * (C * (D * (E * F)))))) w) : Sat w0 (A * (B * (C * (D * (E * (G * F)))))) w := h.of (by rw [star_left E G, star_left D G, star_left C G, star_left B G, star_left A G])
theorem Sat.drop2 (h : Sat w0 (A * (B * F)) w) : Sat w0 (A * F) w := h.up2.right
end
end Go.Proofs.Ytndfgijdcanbaaa
