/- Joined, as they were built one by one: Lib Sep Bytes. -/
import Derived.WalkKit
import Derived.WalkSpells
import Derived.WalkLawsBesides
import Derived.WalkSmall
import Derived.Outline
import Derived.KernelRfl
import Derived.Lib.Hide
import Derived.LoopTactic
import Derived.Below
import Derived.OneCell
import Derived.Laws.OwnMore
import Derived.Laws.BytesArg
import Derived.Laws.BitsAllLaws
import Derived.Laws.BitsLemmas
import Derived.Laws.MakeOwn
import Derived.Maps.AppendAt
import Derived.Deep.AppendLies
import Derived.Deep.Draws
import Derived.Deep.QuietTactic
import Derived.BigQuiet
import Derived.Deep.RegionHeld3
import Derived.Deep.RegionLaw
import Derived.Deep.DeepCutAuto
import Derived.Deep.DeepFit
import Derived.Deep.LoopGhost
import Derived.Test.YtaoenbjfkahdjaaProg
import Derived.Lib.SlBytesConst
namespace Go.Proofs.Ytaoenbjfkahdjaa
open Go.RowKit
set_option linter.unusedVariables false
set_option maxRecDepth 100000

/-- What may change between two worlds: the blocks of S, and what is new. -/
structure Chg (S : Nat → Prop) (w w' : World) : Prop where
  os : w'.os = w.os
  tape : w'.tape = w.tape
  output : w'.output = w.output
  size : w.heap.size ≤ w'.heap.size
  block : ∀ k, k < w.heap.size → ¬ S k → w'.heap[k]? = w.heap[k]?

def No : Nat → Prop := fun _ => False
def One (g : Nat) : Nat → Prop := fun k => k = g
def From (B : Nat) : Nat → Prop := fun k => B ≤ k

section chg
variable {S T : Nat → Prop} {a w w' w'' : World}
theorem Chg.refl (S : Nat → Prop) (w : World) : Chg S w w := ⟨rfl, rfl, rfl, Nat.le_refl _, fun _ _ _ => rfl⟩
theorem Chg.trans (h : Chg S a w) (k : Chg T w w') (hT : ∀ i, i < a.heap.size → T i → S i) : Chg S a w' :=
  ⟨k.os.trans h.os, k.tape.trans h.tape, k.output.trans h.output, Nat.le_trans h.size k.size, fun i hi hn => (k.block i (Nat.lt_of_lt_of_le hi h.size) (fun ht => hn (hT i hi ht))).trans (h.block i hi hn)⟩
theorem Chg.tr (h : Chg S a w) (k : Chg S w w') : Chg S a w' := h.trans k fun _ _ => id
theorem Chg.mono (h : Chg S a w) (hT : ∀ i, i < a.heap.size → S i → T i) : Chg T a w := ⟨h.os, h.tape, h.output, h.size, fun i hi hn => h.block i hi fun hs => hn (hT i hi hs)⟩
theorem Chg.no (h : Chg No a w) : Chg S a w := h.mono fun _ _ => False.elim
theorem Chg.new (h : Chg S a w) (k : Chg No w w') : Chg S a w' := h.trans k fun _ _ => False.elim
theorem Chg.below (h : Chg No a w) : Below a.heap.size a w := ⟨h.os, h.tape, h.output, h.size, fun k hk => h.block k hk id⟩
theorem Chg.of_below {B : Nat} (h : Below B a w) : Chg (From B) a w := ⟨h.os, h.tape, h.output, h.size, fun k _ hn => h.block k (Nat.lt_of_not_le hn)⟩
theorem Chg.of_new (h : Below a.heap.size a w) : Chg No a w := ⟨h.os, h.tape, h.output, h.size, fun k hk _ => h.block k hk⟩
theorem Chg.of_grown {r : Option Nat} (h : a.grownBy w r) : Chg (fun k => some k = r) a w := ⟨h.os, h.tape, h.output, h.size, fun k hk hn => h.block k hk hn⟩
/-- A change of what is new alone. -/
theorem Chg.own (h : Chg No a w) (k : Chg S w w') (hS : ∀ i, S i → a.heap.size ≤ i) : Chg No a w' := h.trans k fun i hi hs => by have := hS i hs; omega
theorem Chg.grown (h : Chg S a w) {r : Option Nat} (g : w.grownBy w' r) (hr : ∀ k, k < a.heap.size → r = some k → S k) : Chg S a w' :=
  h.trans (Chg.of_grown g) fun i hi e => hr i hi e.symm
theorem Chg.alloc (h : Chg S a w) (o : Obj) : Chg S a (w.alloc o) := h.new (Chg.of_new ((Below.refl _ _).alloc (Nat.le_refl _) o))
theorem Chg.drew (h : Chg S a w) : Chg S a w.drew := ⟨h.os, h.tape, h.output, h.size, h.block⟩
theorem Chg.drewN (h : Chg S a w) (n : Nat) : Chg S a (w.drewN n) := ⟨h.os, h.tape, h.output, h.size, h.block⟩
theorem Chg.setCell (h : Chg S a w) {p : Addr} (hp : p.block < a.heap.size → S p.block) (u : Value) : Chg S a (w.setCell p u) :=
  ⟨h.os, h.tape, h.output, by simpa [World.setCell] using h.size, fun i hi hn => (Below.heap_setCell w p u i (fun e => by subst e; exact hn (hp hi))).trans (h.block i hi hn)⟩
theorem Chg.cell (h : Chg S w w') {p : Addr} {v : Value} (hv : w.cell? p = some v) (hp : ¬ S p.block) : w'.cell? p = some v :=
  (World.cell?_of_block (h.block p.block (World.block_lt_of_cell? w p hv) hp)).trans hv
theorem Chg.frozen (h : Chg S w w') {p : Addr} (hlt : p.block < w.heap.size) (hp : ¬ S p.block) : w'.frozen? p = w.frozen? p := World.frozen?_of_block (w := w) (h.block p.block hlt hp)
end chg

/-- Block g is just the cells cs, none frozen. -/
def At (w : World) (g : Nat) (t : TypeId) (cs : Array Value) : Prop := w.heap[g]? = some (.cells cs t (0, 0))
section at_
variable {w w' : World} {g : Nat} {t : TypeId} {cs : Array Value}
theorem At.lt (h : At w g t cs) : g < w.heap.size := lt_of_block h
theorem At.cell (h : At w g t cs) (i : Nat) : w.cell? ⟨g, i, none⟩ = cs[i]? := cell_of_row w g i cs t (0, 0) h
theorem At.cell' (h : At w g t cs) (i : Nat) (hi : i < cs.size) : w.cell? ⟨g, i, none⟩ = some cs[i] := by rw [h.cell, Array.getElem?_eq_getElem hi]
theorem At.frozen (h : At w g t cs) (i : Nat) : w.frozen? ⟨g, i, none⟩ = false := by unfold At at h; simp [World.frozen?, h]
theorem At.new (w : World) (t : TypeId) (cs : Array Value) : At (w.alloc (.cells cs t)) w.heap.size t cs := heap_alloc_new w _
theorem At.drew (h : At w g t cs) : At w.drew g t cs := h
theorem At.drewN (h : At w g t cs) (n : Nat) : At (w.drewN n) g t cs := h
theorem At.alloc (h : At w g t cs) (o : Obj) : At (w.alloc o) g t cs := (Below.heap_alloc w o g h.lt).trans h
theorem At.set (h : At w g t cs) (i : Nat) (u : Value) : At (w.setCell ⟨g, i, none⟩ u) g t (cs.setIfInBounds i u) := by
  unfold At at h ⊢
  simp [World.setCell, Array.getElem?_modify, h]
theorem At.far (h : At w g t cs) {p : Addr} (hp : g ≠ p.block) (u : Value) : At (w.setCell p u) g t cs := (Below.heap_setCell w p u g hp).trans h
theorem At.chg {S : Nat → Prop} (h : At w g t cs) (k : Chg S w w') (hg : ¬ S g) : At w' g t cs := (k.block g h.lt hg).trans h
theorem At.ne {g' : Nat} {t' : TypeId} {cs' : Array Value} (h : At w g t cs) (h' : At w g' t' cs') (hne : t ≠ t') : g ≠ g' := by
  rintro rfl
  unfold At at h h'
  rw [h] at h'
  injection h' with h'
  injection h' with _ ht
  exact hne ht
theorem At.inj {t' : TypeId} {cs' : Array Value} (h : At w g t cs) (h' : At w g t' cs') : cs = cs' := by
  unfold At at h h'
  rw [h] at h'
  injection h' with h'
  injection h'
end at_

/-- The slice at A reads as the values xs (one cell each). -/
def RdV (w : World) (A : Option Addr) (xs : List Value) : Prop :=
  xs ≠ [] → ∃ b o, A = some ⟨b, o, none⟩ ∧ ∀ j (h : j < xs.length), w.cell? ⟨b, o + j, none⟩ = some xs[j]
section rdv
variable {w w' : World} {A : Option Addr} {xs : List Value}
theorem RdV.nil (w : World) (A : Option Addr) : RdV w A [] := fun h => absurd rfl h
theorem RdV.get (h : RdV w A xs) {j : Nat} (hj : j < xs.length) : ∃ b o, A = some ⟨b, o, none⟩ ∧ w.cell? ⟨b, o + j, none⟩ = some xs[j] := by
  obtain ⟨b, o, e, hc⟩ := h (by rintro rfl; simp at hj)
  exact ⟨b, o, e, hc j hj⟩
theorem RdV.keep (h : RdV w A xs) (hk : ∀ b o, xs ≠ [] → A = some ⟨b, o, none⟩ → b < w.heap.size → ∀ i, w'.cell? ⟨b, i, none⟩ = w.cell? ⟨b, i, none⟩) : RdV w' A xs := fun hx => by
  obtain ⟨b, o, e, hc⟩ := h hx
  have h0 := hc 0 (List.length_pos_iff.2 hx)
  exact ⟨b, o, e, fun j hj => (hk b o hx e (World.block_lt_of_cell? w _ h0) _).trans (hc j hj)⟩
theorem RdV.chg {S : Nat → Prop} (h : RdV w A xs) (k : Chg S w w') (hS : ∀ b o, xs ≠ [] → A = some ⟨b, o, none⟩ → ¬ S b) : RdV w' A xs :=
  h.keep fun b o hx e hb i => World.cell?_of_block (a := ⟨b, i, none⟩) (k.block b hb (hS b o hx e))
theorem RdV.new (h : RdV w A xs) (k : Chg No w w') : RdV w' A xs := h.chg k fun _ _ _ _ => id
theorem RdV.lt (h : RdV w A xs) (hx : xs ≠ []) : ∃ b o, A = some ⟨b, o, none⟩ ∧ b < w.heap.size := by
  obtain ⟨b, o, e, hc⟩ := h hx
  exact ⟨b, o, e, World.block_lt_of_cell? w _ (hc 0 (List.length_pos_iff.2 hx))⟩
theorem RdV.drew (h : RdV w A xs) : RdV w.drew A xs := h
theorem RdV.drewN (h : RdV w A xs) (n : Nat) : RdV (w.drewN n) A xs := h
theorem RdV.alloc (h : RdV w A xs) (o : Obj) : RdV (w.alloc o) A xs := h.new ((Chg.refl No w).alloc o)
theorem RdV.take (h : RdV w A xs) (k : Nat) : RdV w A (xs.take k) := fun hx => by
  obtain ⟨b, o, e, hc⟩ := h (by rintro rfl; simp at hx)
  exact ⟨b, o, e, fun j hj => by rw [hc j (by simp at hj; omega)]; simp⟩
theorem RdV.drop (h : RdV w A xs) {k cap : Nat} (hk : k ≤ xs.length) (hc : xs.length ≤ cap) : RdV w (if cap = k then A else A.map (·.add k)) (xs.drop k) := fun hx => by
  have hlt : k < xs.length := by
    rcases Nat.lt_or_ge k xs.length with h1 | h1
    · exact h1
    · exact absurd (List.drop_eq_nil_of_le h1) hx
  obtain ⟨b, o, e, hcell⟩ := h (by rintro rfl; simp at hlt)
  rw [if_neg (by omega)]
  refine ⟨b, o + k, by simp [e, Addr.add_lit], fun j hj => ?_⟩
  rw [Nat.add_assoc, hcell (k + j) (by simp at hj; omega)]
  simp
theorem RdV.of_at {g : Nat} {t : TypeId} {cs : Array Value} (h : At w g t cs) (hx : ∀ j (hj : j < xs.length), cs[j]? = some xs[j]) : RdV w (some ⟨g, 0, none⟩) xs := fun _ =>
  ⟨g, 0, rfl, fun j hj => by rw [h.cell, Nat.zero_add]; exact hx j hj⟩
theorem RdV.of_own {base : Nat} {e : TypeId} {n c : Nat} (h : w.ownsRow base e 1 (.slice A n c) n xs) : RdV w A xs := fun hx => by
  have hn : 0 < n := by have := h.1; have := List.length_pos_iff.2 hx; omega
  obtain ⟨g, cap, hv, _, hlt⟩ := h.form hn
  have hA : A = some ⟨g, 0, none⟩ := by injection hv
  have hcap : c = cap := by injection hv
  subst hA; subst hcap
  refine ⟨g, 0, rfl, fun j hj => ?_⟩
  rw [Nat.zero_add, h.cellAt j (by have := h.1; omega), List.getElem?_eq_getElem hj]
/-- A block that has just been laid, whatever its mark. -/
theorem RdV.lit (w : World) (cs : Array Value) (t : TypeId) (fr : Nat × Nat) : RdV (w.alloc (.cells cs t fr)) (some ⟨w.heap.size, 0, none⟩) cs.toList := fun _ =>
  ⟨_, 0, rfl, fun j hj => by
    have h : (w.alloc (.cells cs t fr)).heap[w.heap.size]? = some (.cells cs t fr) := heap_alloc_new w _
    rw [cell_of_row _ _ _ _ _ _ h, Nat.zero_add]
    simp at hj
    simp [hj]⟩
/-- The kit's own word for the cells that an append takes. -/
theorem RdV.news (h : RdV w A xs) {ad : Addr} (hA : A = some ad) : ∀ j u, xs[j]? = some u → w.cell? (ad.add j) = some u := by
  intro j u hu
  have hj : j < xs.length := (List.getElem?_eq_some_iff.1 hu).1
  obtain ⟨b, o, e, hc⟩ := h (by rintro rfl; simp at hj)
  rw [hA] at e
  injection e with e
  subst e
  rw [Addr.add_lit, hc j hj]
  rw [List.getElem?_eq_getElem hj] at hu
  exact hu
end rdv

/-- A byte, as a value. -/
def bv (b : UInt8) : Value := .int .u8 (b.toNat : Int)
theorem bv_one (l : List UInt8) : ∀ u ∈ l.map bv, u.oneCell' = true := by
  intro u hu
  obtain ⟨b, _, rfl⟩ := List.mem_map.1 hu
  rfl
theorem bv_inj {a b : UInt8} (h : bv a = bv b) : a = b := by
  unfold bv at h
  injection h with _ h
  exact UInt8.toNat.inj (by omega)
theorem map_bv_inj : ∀ {l l' : List UInt8}, l.map bv = l'.map bv → l = l'
  | [], [], _ => rfl
  | [], _ :: _, h => by simp at h
  | _ :: _, [], h => by simp at h
  | a :: l, b :: l', h => by
    simp only [List.map_cons, List.cons.injEq] at h
    rw [bv_inj h.1, map_bv_inj h.2]

/-- The slice at A reads as the bytes l. -/
def Rd (w : World) (A : Option Addr) (l : List UInt8) : Prop := RdV w A (l.map bv)
section rd
variable {w w' : World} {A : Option Addr} {l : List UInt8}
theorem Rd.nil (w : World) (A : Option Addr) : Rd w A [] := RdV.nil w A
theorem Rd.get (h : Rd w A l) {j : Nat} (hj : j < l.length) : ∃ b o, A = some ⟨b, o, none⟩ ∧ w.cell? ⟨b, o + j, none⟩ = some (.int .u8 (l[j].toNat : Int)) := by
  obtain ⟨b, o, e, hc⟩ := RdV.get h (j := j) (by simpa using hj)
  exact ⟨b, o, e, by rw [hc]; simp [bv]⟩
theorem Rd.chg {S : Nat → Prop} (h : Rd w A l) (k : Chg S w w') (hS : ∀ b o, l ≠ [] → A = some ⟨b, o, none⟩ → ¬ S b) : Rd w' A l := RdV.chg h k fun b o hx e => hS b o (fun hl => hx (by simp [hl])) e
theorem Rd.new (h : Rd w A l) (k : Chg No w w') : Rd w' A l := RdV.new h k
theorem Rd.lt (h : Rd w A l) (hx : l ≠ []) : ∃ b o, A = some ⟨b, o, none⟩ ∧ b < w.heap.size := RdV.lt h (by simpa using hx)
theorem Rd.drewN (h : Rd w A l) (n : Nat) : Rd (w.drewN n) A l := h
theorem Rd.alloc (h : Rd w A l) (o : Obj) : Rd (w.alloc o) A l := RdV.alloc h o
theorem Rd.take (h : Rd w A l) (k : Nat) : Rd w A (l.take k) := by have := RdV.take h k; rwa [← List.map_take] at this
theorem Rd.drop (h : Rd w A l) {k cap : Nat} (hk : k ≤ l.length) (hc : l.length ≤ cap) : Rd w (if cap = k then A else A.map (·.add k)) (l.drop k) := by
  have := RdV.drop h (k := k) (cap := cap) (by simpa using hk) (by simpa using hc)
  rwa [← List.map_drop] at this
/-- What string(b) gives. -/
theorem Rd.str {P : Program} (h : Rd w A l) (src dst e : TypeId) (hs : P.underlying src = some (.slice e)) (he : P.underlying e = some (.int .u8)) (hd : P.underlying dst = some .string) (c : Nat) :
    (convert src dst (.slice A l.length c)).run P w = .ok (.string ⟨l.toArray⟩) w := by
  rcases A with _ | ad
  · have hl : l = [] := by
      rcases l with _ | ⟨x, l⟩
      · rfl
      · obtain ⟨b, o, e, _⟩ := h (by simp); cases e
    subst hl
    rw [run_convert_bytes_nil w src e hs he _ c dst hd]
    rfl
  · have hx : l = (l.map fun b => (b.toNat : Int)).map fun n => UInt8.ofNat n.toNat := by
      rw [List.map_map]
      conv => lhs; rw [← List.map_id l]
      apply List.map_congr_left
      intro b _
      simp
    by_cases hl : l = []
    · subst hl
      simp only [List.length_nil]
      rw [run_convert_bytes_string w src dst e _ 0 c hs he hd]
      rw [run_bytesToString w ad 0 c [] (by simp [loadCells, loadCellsFrom])]
      rfl
    · obtain ⟨b, o, e', hc⟩ := h (by simpa using hl)
      injection e' with e'
      subst e'
      have := run_convert_bytes_arg (P := P) w src e hs he b o l.length c (l.map fun b => (b.toNat : Int)) (by simp) (fun i hi => by
        rw [hc i (by simpa using hi)]
        simp [bv, List.getD, hi]) dst hd
      rw [this]
      simp only [strOfNums]
      rw [← hx]
end rd

/-- A list of rows of bytes: where each lies, its room, what it reads as. -/
abbrev Rows_ := List (Option Addr × Nat × List UInt8)
def slOf (k : Option Addr × Nat × List UInt8) : Value := .slice k.1 k.2.2.length k.2.1
def RdL (w : World) (A : Option Addr) (ks : Rows_) : Prop := RdV w A (ks.map slOf) ∧ ∀ k ∈ ks, Rd w k.1 k.2.2
def txt (ks : Rows_) : List (List UInt8) := ks.map (·.2.2)
theorem txt_append (a b : Rows_) : txt (a ++ b) = txt a ++ txt b := List.map_append
section rdl
variable {w w' : World} {A : Option Addr} {ks : Rows_}
theorem RdL.new (h : RdL w A ks) (k : Chg No w w') : RdL w' A ks := ⟨h.1.new k, fun x hx => (h.2 x hx).new k⟩
theorem RdL.nil (w : World) (A : Option Addr) : RdL w A [] := ⟨RdV.nil w A, fun _ h => by simp at h⟩
theorem RdL.get (h : RdL w A ks) {j : Nat} (hj : j < ks.length) : (∃ b o, A = some ⟨b, o, none⟩ ∧ w.cell? ⟨b, o + j, none⟩ = some (.slice ks[j].1 ks[j].2.2.length ks[j].2.1)) ∧ Rd w ks[j].1 ks[j].2.2 := by
  refine ⟨?_, h.2 _ (List.getElem_mem hj)⟩
  obtain ⟨b, o, e, hc⟩ := RdV.get h.1 (j := j) (by simpa using hj)
  exact ⟨b, o, e, by rw [hc]; simp [slOf]⟩
theorem RdL.take (h : RdL w A ks) (k : Nat) : RdL w A (ks.take k) :=
  ⟨by have := h.1.take k; rwa [← List.map_take] at this, fun x hx => h.2 x (List.mem_of_mem_take hx)⟩
theorem RdL.drop (h : RdL w A ks) {k cap : Nat} (hk : k ≤ ks.length) (hc : ks.length ≤ cap) : RdL w (if cap = k then A else A.map (·.add k)) (ks.drop k) := by
  refine ⟨?_, fun x hx => h.2 x (List.mem_of_mem_drop hx)⟩
  have := h.1.drop (k := k) (cap := cap) (by simpa using hk) (by simpa using hc)
  rwa [← List.map_drop] at this
end rdl

/-- What holds whatever the blocks of S turn into. -/
def Stay (S : Nat → Prop) (w : World) (Q : World → Prop) : Prop := ∀ w', Chg S w w' → Q w'
theorem Stay.now {S : Nat → Prop} {w : World} {Q : World → Prop} (h : Stay S w Q) : Q w := h w (Chg.refl S w)
theorem Stay.step {S T : Nat → Prop} {w w' : World} {Q : World → Prop} (h : Stay S w Q) (k : Chg T w w') (hT : ∀ i, i < w.heap.size → T i → S i) : Stay S w' Q := fun w'' k' => h w'' (((Chg.refl S w).trans k hT).tr k')
theorem Stay.new {S : Nat → Prop} {w w' : World} {Q : World → Prop} (h : Stay S w Q) (k : Chg No w w') : Stay S w' Q := h.step k fun _ _ => False.elim
/-- What is older than a, whatever has come since is written. -/
theorem Stay.old {S : Nat → Prop} {a w : World} {Q : World → Prop} (h : Stay No a Q) (k : Chg No a w) (hS : ∀ i, S i → a.heap.size ≤ i) : Stay S w Q := fun w' k' => h w' (k.own k' hS)
theorem Rd.stay {w : World} {A : Option Addr} {l : List UInt8} (h : Rd w A l) : Stay No w (Rd · A l) := fun _ k => h.new k
theorem RdL.stay {w : World} {A : Option Addr} {ks : Rows_} (h : RdL w A ks) : Stay No w (RdL · A ks) := fun _ k => h.new k

theorem ret_int {k : IntKind} {a b : Int} (h : a = b) : Ending.returned (.int k a) = .returned (.int k b) := by rw [h]
theorem ret_bool {a b : Bool} (h : a = b) : Ending.returned (.bool a) = .returned (.bool b) := by rw [h]

/-- What a statement's walk ends with. -/
def Asked (b : Bool) (w : World) (e : Ending) (w' : World) : Prop := e = .returned (.bool b) ∧ Chg No w w'

/-! append onto a row of the call's own, whatever the source is -/
section app
variable {P : Program} {w : World}
theorem run_app_nil (base : Nat) (t ty e : TypeId) (i : TypeInfo) (size : Nat) (ht : P.underlying t = some (.slice e)) (hi : P.info? e = some i)
    (v : Value) (n : Nat) (xs : List Value) (hown : w.ownsRow base e size v n xs) (c : Nat) : (Builtin.append_ #[t, t] ty #[v, .slice none 0 c]).run P w = .ok v w := by
  rcases hown.2 with ⟨rfl, rfl⟩ | ⟨g, cap, cur, rfl, _, _, hnc, _⟩
  · simp [Builtin.append_, run_underlying ht, sizeOf, typeInfo, hi, Builtin.lenOf, Builtin.firstCells]
  · simp [Builtin.append_, run_underlying ht, sizeOf, typeInfo, hi, Builtin.lenOf, Builtin.firstCells, hnc, storeCells]

/-- What an append leaves. (What was there may be read on: 'keep'.) -/
structure Appd (base e size : Nat) (w : World) (v : Value) (n m : Nat) (ys : List Value) (v' : Value) (w' : World) : Prop where
  keep : w'.ownsRow base e size v n (ys.take (n * size))
  own : w'.ownsRow base e size v' (n + m) ys
  chg : Chg (fun k => some k = v.ownBlock) w w'
  at_ : v'.ownBlock = v.ownBlock ∨ v'.ownBlock = some w.heap.size
  nil : v' = .slice none 0 0 ↔ v = .slice none 0 0 ∧ m = 0

theorem Appd.old {base e size n m : Nat} {a w w' : World} {v v' : Value} {xs ys : List Value} (h : Appd base e size w v n m ys v' w') (k : Chg No a w) (hown : w.ownsRow base e size v n xs) (hb : a.heap.size ≤ base) : Chg No a w' :=
  k.own h.chg fun i hi => by have := (hown.lt i hi.symm).1; omega

theorem run_app (base : Nat) (t ty e : TypeId) (i : TypeInfo) (z : Value) (size bytes : Nat) (ht : P.underlying t = some (.slice e)) (hi : P.info? e = some i) (hz : i.zero = some z)
    (hsize : i.size = size) (hby : i.bytes = bytes) (hzs : z.cells.size = size) (hsz : 0 < size)
    (v : Value) (n : Nat) (xs : List Value) (hown : w.ownsRow base e size v n xs)
    (A : Option Addr) (m c : Nat) (news : List Value) (hr : RdV w A news) (hm : news.length = m * size) (h1 : ∀ u ∈ news, u.oneCell' = true)
    (h63 : n + m ≤ maxLen) (hbytes : (n + m) * bytes ≤ 140737488355328) (hbase : base ≤ w.heap.size) :
    ∃ v' w', (Builtin.append_ #[t, t] ty #[v, .slice A m c]).run P w = .ok v' w' ∧ Appd base e size w v n m (xs ++ news) v' w' := by
  rcases A with _ | ad
  · have hn : news = [] := by
      by_cases hx : news = []
      · exact hx
      · obtain ⟨b, o, h, _⟩ := hr hx; cases h
    subst hn
    have hm0 : m = 0 := by
      rcases Nat.eq_zero_or_pos m with h | h
      · exact h
      · have := Nat.mul_pos h hsz; simp at hm; omega
    subst hm0
    exact ⟨v, w, run_app_nil base t ty e i size ht hi v n xs hown c, by rw [List.append_nil, ← hown.1, List.take_length]; exact hown, by simpa using hown, Chg.refl _ _, .inl rfl, by simp⟩
  · obtain ⟨v', w', hrun, h2, h3, h4, h5⟩ := run_append_own_at (P := P) w base t ty e i z size bytes ht hi hz hsize hby hzs hsz v n xs hown ad m c news hm (hr.news rfl) h1 h63 hbytes hbase
    refine ⟨v', w', hrun, ?_, h2, Chg.of_grown h3, h5, h4⟩
    rw [← hown.1, List.take_left]
    rcases hown.2 with ⟨rfl, rfl⟩ | ⟨g, cap, cur, rfl, hbg, hg, hnc, hcm, hcs, htake⟩
    · have hx : xs = [] := List.eq_nil_of_length_eq_zero (by simpa using hown.1)
      subst hx
      exact World.ownsRow_nil _ _ _ _
    · by_cases hroom : n + m ≤ cap
      · have hfit : n * i.size + news.length ≤ cur.size := by rw [hm, hcs, hsize, ← Nat.add_mul]; exact Nat.mul_le_mul_right _ hroom
        have hr2 := run_append_room (P := P) w t ty e i ht hi g n cap cur hg ad m c news (by rw [hsize]; exact hm) (hr.news rfl) h1 hroom hfit
        rw [hrun] at hr2
        injection hr2 with _ hw
        subst hw
        refine ⟨hown.1, .inr ⟨g, cap, _, rfl, hbg, setRow_heap w g cur _ e _ hg, hnc, hcm, ?_, ?_⟩⟩
        · simp only [List.size_toArray, List.length_append, List.length_take, List.length_drop, Array.length_toList]
          rw [hsize] at hfit ⊢
          omega
        · rw [hsize]
          have hlen : (cur.toList.take (n * size)).length = n * size := by
            rw [List.length_take, Array.length_toList, hcs]
            exact Nat.min_eq_left (Nat.mul_le_mul_right _ hnc)
          show (cur.toList.take (n * size) ++ news ++ _).take (n * size) = xs
          rw [List.append_assoc, List.take_append_of_le_length (by omega), List.take_take, Nat.min_self, htake]
      · have holds : ∀ j u, xs[j]? = some u → w.cell? ((⟨g, 0, none⟩ : Addr).add j) = some u := hown.cells (g := g) rfl
        subst hsize
        subst hby
        have h63' : n + m ≤ 9223372036854775807 := by simp only [maxLen] at h63; omega
        have hr2 := run_append_grow (P := P) w t ty e i z ht hi hz ⟨g, 0, none⟩ n cap xs hown.1 holds ad m c news hm (hr.news rfl) (by omega) (by omega) (growslice_fits (by omega) hbytes)
        rw [hrun] at hr2
        injection hr2 with _ hw
        subst hw
        refine ⟨hown.1, .inr ⟨g, cap, cur, rfl, hbg, ?_, hnc, hcm, hcs, htake⟩⟩
        rw [heap_alloc_old w.drew _ (r := g) (At.lt hg)]
        exact hg

theorem wpList_app {ops : Array Oper} {rest : List Oper} {o : Oper} {a : Act} {Q : Exit → Act → World → Prop} (hgd : o.guard = none) (s x : Operand) (t : TypeId)
    (ho : o.op = .call { callee := .builtin .append, args := #[s, x], argTypes := #[t, t] })
    (base : Nat) (e : TypeId) (i : TypeInfo) (z : Value) (size bytes : Nat) (ht : P.underlying t = some (.slice e)) (hi : P.info? e = some i) (hz : i.zero = some z)
    (hsize : i.size = size) (hby : i.bytes = bytes) (hzs : z.cells.size = size) (hsz : 0 < size)
    (v : Value) (n : Nat) (xs : List Value) (hs : a.eval s = v) (hown : w.ownsRow base e size v n xs)
    (A : Option Addr) (m c : Nat) (news : List Value) (hx : a.eval x = .slice A m c) (hr : RdV w A news) (hm : news.length = m * size) (h1 : ∀ u ∈ news, u.oneCell' = true)
    (h63 : n + m ≤ maxLen) (hbytes : (n + m) * bytes ≤ 140737488355328) (hbase : base ≤ w.heap.size)
    (h : ∀ v' w', Appd base e size w v n m (xs ++ news) v' w' → wpList P ops Q rest (a.put o.dst v') w') : wpList P ops Q (o :: rest) a w := by
  refine wpList_plain hgd fun K hK => ?_
  obtain ⟨v', w', hrun, h2⟩ := run_app (P := P) base t o.type e i z size bytes ht hi hz hsize hby hzs hsz v n xs hown A m c news hr hm h1 h63 hbytes hbase
  unfold Oper.wp execOp
  simp only [ho, resolve, invoke, builtin, Sem.run_bind, Sem.run_pure, Result.andThen_ok, List.map_toArray, List.map_cons, List.map_nil, hs, hx, hrun]
  exact hK _ _ (h v' w' h2)
end app

/-- A row of the call's own that is no nil: where it lies, and its room. -/
theorem own_form {w : World} {base e n : Nat} {v : Value} {xs : List Value} (h : w.ownsRow base e 1 v n xs) (hv : v ≠ .slice none 0 0) :
    ∃ g cap cur, v = .slice (some ⟨g, 0, none⟩) n cap ∧ base ≤ g ∧ At w g e cur ∧ n ≤ cap ∧ cap ≤ maxLen ∧ cur.size = cap ∧ ∀ j (hj : j < xs.length), cur[j]? = some xs[j] := by
  rcases h.2 with ⟨h1, _⟩ | ⟨g, cap, cur, h1, h2, h3, h4, h5, h6, h7⟩
  · exact absurd h1 hv
  · refine ⟨g, cap, cur, h1, h2, h3, h4, h5, by simpa using h6, fun j hj => ?_⟩
    have hl := h.1
    have : xs[j]? = some xs[j] := List.getElem?_eq_getElem hj
    rw [← this]
    conv => rhs; rw [← h7]
    rw [List.getElem?_take, if_pos (by omega)]
    simp
theorem own_nil {w : World} {base e n : Nat} {xs : List Value} (h : w.ownsRow base e 1 (.slice none 0 0) n xs) : n = 0 ∧ xs = [] := by
  rcases h.2 with ⟨_, h2⟩ | ⟨g, cap, cur, h1, _⟩
  · subst h2; exact ⟨rfl, List.eq_nil_of_length_eq_zero (by simpa using h.1)⟩
  · simp at h1
theorem own_rd {w : World} {base e n : Nat} {v : Value} {xs : List Value} (h : w.ownsRow base e 1 v n xs) : ∃ A c, v = .slice A n c ∧ RdV w A xs ∧ n ≤ c ∧ c ≤ maxLen ∧ ∀ b o, A = some ⟨b, o, none⟩ → base ≤ b := by
  by_cases hv : v = .slice none 0 0
  · subst hv
    obtain ⟨rfl, rfl⟩ := own_nil h
    exact ⟨none, 0, rfl, RdV.nil _ _, Nat.le_refl _, Nat.zero_le _, fun b o e => by cases e⟩
  · obtain ⟨g, cap, cur, rfl, h2, h3, h4, h5, h6, h7⟩ := own_form h hv
    exact ⟨_, _, rfl, RdV.of_at h3 h7, h4, h5, fun b o e => by injection e with e; injection e with e; omega⟩
theorem own_chg {S : Nat → Prop} {w w' : World} {base e size n : Nat} {v : Value} {xs : List Value} (h : w.ownsRow base e size v n xs) (k : Chg S w w') (hS : ∀ b, v.ownBlock = some b → ¬ S b) : w'.ownsRow base e size v n xs := by
  refine ⟨h.1, ?_⟩
  rcases h.2 with h1 | ⟨g, cap, cur, h1, h2, h3, r⟩
  · exact .inl h1
  · exact .inr ⟨g, cap, cur, h1, h2, (At.chg h3 k (hS g (by rw [h1]; rfl))), r⟩
theorem own_lit (w : World) (e : TypeId) (cs : Array Value) (hm : cs.size ≤ maxLen) : (w.alloc (.cells cs e)).ownsRow w.heap.size e 1 (.slice (some ⟨w.heap.size, 0, none⟩) cs.size cs.size) cs.size cs.toList :=
  World.ownsRow_lit w cs cs.size (Nat.le_refl _) hm (by omega)

/-! append within the room that is known -/
section fit
variable {P : Program} {w : World}
theorem run_fit (t ty e : TypeId) (i : TypeInfo) (ht : P.underlying t = some (.slice e)) (hi : P.info? e = some i) (hsize : i.size = 1)
    (g n cap : Nat) (cur : Array Value) (hg : At w g e cur) (hcs : cur.size = cap)
    (A : Option Addr) (m c : Nat) (news : List Value) (hr : RdV w A news) (hm : news.length = m) (h1 : ∀ u ∈ news, u.oneCell' = true) (hroom : n + m ≤ cap) :
    ∃ w', (Builtin.append_ #[t, t] ty #[.slice (some ⟨g, 0, none⟩) n cap, .slice A m c]).run P w = .ok (.slice (some ⟨g, 0, none⟩) (n + m) cap) w' ∧
      At w' g e (cur.toList.take n ++ news ++ cur.toList.drop (n + m)).toArray ∧ Chg (One g) w w' := by
  rcases A with _ | ad
  · have hn : news = [] := by
      by_cases hx : news = []
      · exact hx
      · obtain ⟨b, o, h, _⟩ := hr hx; cases h
    subst hn
    have hm0 : m = 0 := by simpa using hm.symm
    subst hm0
    refine ⟨w, ?_, ?_, Chg.refl _ _⟩
    · have hnc : n ≤ cap := hroom
      simp [Builtin.append_, run_underlying ht, sizeOf, typeInfo, hi, Builtin.lenOf, Builtin.firstCells, hnc, storeCells]
    · simpa using hg
  · have hr' := run_append_room (P := P) w t ty e i ht hi g n cap cur hg ad m c news (by rw [hsize]; omega) (hr.news rfl) h1 hroom (by rw [hsize]; omega)
    rw [hsize, Nat.mul_one, hm] at hr'
    refine ⟨_, hr', setRow_heap w g cur _ e _ hg, ⟨rfl, rfl, rfl, by simp, fun k _ hk => setRow_other w g k _ hk⟩⟩
theorem wpList_fit {ops : Array Oper} {rest : List Oper} {o : Oper} {a : Act} {Q : Exit → Act → World → Prop} (hgd : o.guard = none) (s x : Operand) (t : TypeId)
    (ho : o.op = .call { callee := .builtin .append, args := #[s, x], argTypes := #[t, t] })
    (e : TypeId) (i : TypeInfo) (ht : P.underlying t = some (.slice e)) (hi : P.info? e = some i) (hsize : i.size = 1)
    (g n cap : Nat) (cur : Array Value) (hs : a.eval s = .slice (some ⟨g, 0, none⟩) n cap) (hg : At w g e cur) (hcs : cur.size = cap)
    (A : Option Addr) (m c : Nat) (news : List Value) (hx : a.eval x = .slice A m c) (hr : RdV w A news) (hm : news.length = m) (h1 : ∀ u ∈ news, u.oneCell' = true) (hroom : n + m ≤ cap)
    (h : ∀ w', At w' g e (cur.toList.take n ++ news ++ cur.toList.drop (n + m)).toArray → Chg (One g) w w' → wpList P ops Q rest (a.put o.dst (.slice (some ⟨g, 0, none⟩) (n + m) cap)) w') : wpList P ops Q (o :: rest) a w := by
  refine wpList_plain hgd fun K hK => ?_
  obtain ⟨w', hrun, h2, h3⟩ := run_fit (P := P) t o.type e i ht hi hsize g n cap cur hg hcs A m c news hr hm h1 hroom
  unfold Oper.wp execOp
  simp only [ho, resolve, invoke, builtin, Sem.run_bind, Sem.run_pure, Result.andThen_ok, List.map_toArray, List.map_cons, List.map_nil, hs, hx, hrun]
  exact hK _ _ (h w' h2 h3)
end fit

end Go.Proofs.Ytaoenbjfkahdjaa
namespace Go.Proofs.Ytaoenbjfkahdjaa
open Go.RowKit
set_option linter.unusedVariables false
set_option maxRecDepth 100000

/-- A part of the memory: blocks, each for good (true) or of the holder alone (false). -/
def Hp := Nat → Option (Bool × Obj)
def jn (x y : Option (Bool × Obj)) : Option (Bool × Obj) := match x with | some a => some a | none => y
def okk (x y : Option (Bool × Obj)) : Prop := x = none ∨ y = none ∨ ∃ o, x = some (true, o) ∧ y = some (true, o)
theorem okk.symm {x y} (h : okk x y) : okk y x := by
  rcases h with h | h | ⟨o, h1, h2⟩
  · exact .inr (.inl h)
  · exact .inl h
  · exact .inr (.inr ⟨o, h2, h1⟩)
theorem jn_comm {x y} (h : okk x y) : jn x y = jn y x := by
  rcases h with rfl | rfl | ⟨o, rfl, rfl⟩
  · cases y <;> rfl
  · cases x <;> rfl
  · rfl
theorem jn_assoc (x y z) : jn (jn x y) z = jn x (jn y z) := by cases x <;> rfl
theorem okk_left {x y z} (h : okk x y) (k : okk (jn x y) z) : okk y z ∧ okk x (jn y z) := by
  rcases h with rfl | rfl | ⟨o, rfl, rfl⟩
  · exact ⟨k, .inl rfl⟩
  · refine ⟨.inl rfl, ?_⟩
    cases x with
    | none => exact .inl rfl
    | some a => exact k
  · refine ⟨k, ?_⟩
    exact .inr (.inr ⟨o, rfl, rfl⟩)
theorem okk_right {x y z} (h : okk y z) (k : okk x (jn y z)) : okk x y ∧ okk (jn x y) z := by
  have := okk_left (x := z) (y := y) (z := x) h.symm (by rw [jn_comm h.symm]; exact k.symm)
  refine ⟨this.1.symm, ?_⟩
  rw [jn_comm this.1.symm]
  exact this.2.symm
def Hp.ok (a b : Hp) : Prop := ∀ k, okk (a k) (b k)
def Hp.un (a b : Hp) : Hp := fun k => jn (a k) (b k)
def SP := Hp → Prop
instance : Mul SP := ⟨fun A B => fun h => ∃ a b, a.ok b ∧ h = a.un b ∧ A a ∧ B b⟩
theorem star_def (A B : SP) (h : Hp) : (A * B) h = ∃ a b, a.ok b ∧ h = a.un b ∧ A a ∧ B b := rfl
theorem star_comm (A B : SP) : A * B = B * A := by
  have : ∀ A B : SP, ∀ h, (A * B) h → (B * A) h := fun A B h ⟨a, b, h1, h2, h3, h4⟩ =>
    ⟨b, a, fun k => (h1 k).symm, by rw [h2]; funext k; exact jn_comm (h1 k), h4, h3⟩
  funext h
  exact propext ⟨this A B h, this B A h⟩
theorem star_assoc (A B C : SP) : A * B * C = A * (B * C) := by
  funext h
  refine propext ⟨?_, ?_⟩
  · rintro ⟨x, c, h1, rfl, ⟨a, b, h2, rfl, ha, hb⟩, hc⟩
    exact ⟨a, b.un c, fun k => (okk_left (h2 k) (h1 k)).2, funext fun k => jn_assoc _ _ _, ha, b, c, fun k => (okk_left (h2 k) (h1 k)).1, rfl, hb, hc⟩
  · rintro ⟨a, x, h1, rfl, ha, b, c, h2, rfl, hb, hc⟩
    exact ⟨a.un b, c, fun k => (okk_right (h2 k) (h1 k)).2, funext fun k => (jn_assoc _ _ _).symm, ⟨a, b, fun k => (okk_right (h2 k) (h1 k)).1, rfl, ha, hb⟩, hc⟩
theorem star_left (A B C : SP) : A * (B * C) = B * (A * C) := by rw [← star_assoc, star_comm A B, star_assoc]
instance : Std.Associative (α := SP) (· * ·) := ⟨star_assoc⟩
instance : Std.Commutative (α := SP) (· * ·) := ⟨star_comm⟩

/-- Nothing. -/
def Emp : SP := fun h => h = fun _ => none
theorem star_emp (A : SP) : A * Emp = A := by
  funext h
  refine propext ⟨?_, fun ha => ⟨h, fun _ => none, fun k => .inr (.inl rfl), funext fun k => ?_, ha, rfl⟩⟩
  · rintro ⟨a, b, _, rfl, ha, rfl⟩
    have : a.un (fun _ => none) = a := funext fun k => by unfold Hp.un jn; cases a k <;> rfl
    rw [this]; exact ha
  · unfold Hp.un jn; cases h k <;> rfl
theorem emp_star (A : SP) : Emp * A = A := by rw [star_comm, star_emp]
def one1 (b : Nat) (x : Bool × Obj) : Hp := fun k => if k = b then some x else none
def SP.ex {α : Type} (B : α → SP) : SP := fun h => ∃ x, B x h
def SP.and (φ : Prop) (A : SP) : SP := fun h => φ ∧ A h
/-- A block of one's own, whatever it is. -/
def Ow (b : Nat) (o : Obj) : SP := fun h => h = one1 b (false, o)
/-- A block of cells of one's own. -/
def Pt (b : Nat) (t : TypeId) (cs : Array Value) : SP := Ow b (.cells cs t (0, 0))
/-- What reads as these values, for good. -/
def Ro (A : Option Addr) (xs : List Value) : SP := fun h => (∀ k x, h k = some x → x.1 = true) ∧ (xs ≠ [] → ∃ b o cs t fr, A = some ⟨b, o, none⟩ ∧ h b = some (true, .cells cs t fr) ∧ ∀ j (hj : j < xs.length), cs[o + j]? = some xs[j])
def Rb (A : Option Addr) (l : List UInt8) : SP := Ro A (l.map bv)

/-- The world w, come from w0 by writing nothing that was there, holds A. -/
structure Sat (w0 : World) (A : SP) (w : World) : Prop where
  chg : Chg No w0 w
  hp : ∃ h : Hp, (∀ k x, h k = some x → w.heap[k]? = some x.2 ∧ (x.1 = false → w0.heap.size ≤ k)) ∧ A h
section
variable {w0 w w' : World} {A B F : SP} {b i n : Nat} {t : TypeId} {cs : Array Value} {v u : Value} {o : Obj}
theorem Sat.start (w : World) : Sat w Emp w := ⟨Chg.refl _ _, fun _ => none, by simp, rfl⟩
theorem Sat.of (h : Sat w0 A w) (e : A = B) : Sat w0 B w := e ▸ h
theorem Sat.mono (h : Sat w0 A w) (e : ∀ h, A h → B h) : Sat w0 B w := let ⟨x, h1, h2⟩ := h.hp; ⟨h.chg, x, h1, e x h2⟩
theorem Sat.right (h : Sat w0 (A * F) w) : Sat w0 F w := by
  obtain ⟨_, h1, a, f, h2, rfl, _, hf⟩ := h.hp
  refine ⟨h.chg, f, fun k x hx => h1 k x ?_, hf⟩
  rcases h2 k with e | e | ⟨o, e1, e2⟩
  · show jn (a k) (f k) = _; rw [e]; exact hx
  · rw [e] at hx; cases hx
  · show jn (a k) (f k) = _; rw [e1]; rw [e2] at hx; exact hx
theorem Sat.left (h : Sat w0 (A * F) w) : Sat w0 A w := (h.of (star_comm _ _)).right
theorem Sat.size (h : Sat w0 A w) : w0.heap.size ≤ w.heap.size := h.chg.size
theorem Sat.frame (h : Sat w0 (A * F) w) (k : ∀ w0 w, Sat w0 A w → Sat w0 B w) : True := trivial
/-- What is new changes nothing of what is held. -/
theorem Sat.new (h : Sat w0 A w) (k : Chg No w w') : Sat w0 A w' := by
  obtain ⟨x, h1, h2⟩ := h.hp
  refine ⟨h.chg.tr k, x, fun b y hy => ⟨?_, (h1 b y hy).2⟩, h2⟩
  have := (h1 b y hy).1
  rw [k.block b (lt_of_block this) id]
  exact this
theorem Sat.drew (h : Sat w0 A w) : Sat w0 A w.drew := h.new (Chg.refl No w).drew
theorem Sat.drewN (h : Sat w0 A w) (n : Nat) : Sat w0 A (w.drewN n) := h.new ((Chg.refl No w).drewN n)
theorem Sat.alloc' (h : Sat w0 A w) (o : Obj) : Sat w0 A (w.alloc o) := h.new ((Chg.refl No w).alloc o)
/-- A block that is new may be held. -/
theorem Sat.take (h : Sat w0 F w) (k : Chg No w w') (hb : w.heap.size ≤ b) (ho : w'.heap[b]? = some o) : Sat w0 (Ow b o * F) w' := by
  have h' := h.new k
  obtain ⟨x, h1, h2⟩ := h.hp
  refine ⟨h'.chg, (one1 b (false, o)).un x, fun q y hy => ?_, _, x, fun q => ?_, rfl, rfl, h2⟩
  · unfold Hp.un one1 at hy
    by_cases e : q = b
    · subst e
      rw [if_pos rfl] at hy
      injection hy with hy
      subst hy
      exact ⟨ho, fun _ => Nat.le_trans h.size hb⟩
    · rw [if_neg e] at hy
      have := h1 q y hy
      refine ⟨?_, this.2⟩
      rw [k.block q (lt_of_block this.1) id]
      exact this.1
  · unfold one1
    by_cases e : q = b
    · right; left
      cases hx : x q with
      | none => rfl
      | some y => have := lt_of_block (h1 q y hx).1; omega
    · exact .inl (if_neg e)
theorem Sat.alloc (h : Sat w0 F w) (o : Obj) : Sat w0 (Ow w.heap.size o * F) (w.alloc o) := h.take ((Chg.refl No w).alloc o) (Nat.le_refl _) (heap_alloc_new w o)
theorem Sat.allocPt (h : Sat w0 F w) (t : TypeId) (cs : Array Value) : Sat w0 (Pt w.heap.size t cs * F) (w.alloc (.cells cs t)) := h.alloc _
theorem Sat.block (h : Sat w0 (Ow b o * F) w) : w.heap[b]? = some o := by
  obtain ⟨_, h1, a, f, h2, rfl, rfl, hf⟩ := h.hp
  exact (h1 b (false, o) (by unfold Hp.un one1 jn; simp)).1
theorem Sat.base (h : Sat w0 (Ow b o * F) w) : w0.heap.size ≤ b := by
  obtain ⟨_, h1, a, f, h2, rfl, rfl, hf⟩ := h.hp
  exact (h1 b (false, o) (by unfold Hp.un one1 jn; simp)).2 rfl
theorem Sat.at (h : Sat w0 (Pt b t cs * F) w) : At w b t cs := h.block
theorem Sat.cell (h : Sat w0 (Pt b t cs * F) w) (i : Nat) : w.cell? ⟨b, i, none⟩ = cs[i]? := h.at.cell i
theorem Sat.frozen (h : Sat w0 (Pt b t cs * F) w) (i : Nat) : w.frozen? ⟨b, i, none⟩ = false := h.at.frozen i
theorem Sat.lt (h : Sat w0 (Ow b o * F) w) : b < w.heap.size := lt_of_block h.block
theorem Sat.ne {b' : Nat} {o' : Obj} (h : Sat w0 (Ow b o * (Ow b' o' * F)) w) : b ≠ b' := by
  rintro rfl
  obtain ⟨_, h1, a, f, h2, rfl, rfl, a', f', h3, rfl, rfl, hf⟩ := h.hp
  have := h2 b
  unfold one1 Hp.un jn at this
  rcases this with e | e | ⟨q, e, _⟩
  · simp at e
  · simp at e
  · simp at e
/-- A block of one's own turns into another one, and nothing else that was there. -/
theorem Sat.turn {o' : Obj} (h : Sat w0 (Ow b o * F) w) (k : Chg (One b) w w') (ho : w'.heap[b]? = some o') : Sat w0 (Ow b o' * F) w' := by
  have hb := h.base
  obtain ⟨_, h1, a, f, h2, rfl, rfl, hf⟩ := h.hp
  refine ⟨h.chg.own k (fun i hi => by cases hi; exact hb), (one1 b (false, o')).un f, fun q y hy => ?_, _, f, fun q => ?_, rfl, rfl, hf⟩
  · unfold Hp.un one1 at hy
    by_cases e : q = b
    · subst e
      rw [if_pos rfl] at hy
      injection hy with hy
      subst hy
      exact ⟨ho, fun _ => hb⟩
    · rw [if_neg e] at hy
      have := h1 q y (by unfold Hp.un one1; rw [if_neg e]; exact hy)
      refine ⟨?_, this.2⟩
      rw [k.block q (lt_of_block this.1) e]
      exact this.1
  · by_cases e : q = b
    · right; left
      have := h2 q
      unfold one1 at this
      rw [if_pos e] at this
      rcases this with e | e | ⟨q, e, _⟩
      · cases e
      · exact e
      · simp at e
    · left; unfold one1; rw [if_neg e]
theorem Sat.set (h : Sat w0 (Pt b t cs * F) w) (i : Nat) (u : Value) : Sat w0 (Pt b t (cs.setIfInBounds i u) * F) (w.setCell ⟨b, i, none⟩ u) :=
  Sat.turn h ((Chg.refl (One b) w).setCell (p := ⟨b, i, none⟩) (fun _ => rfl) u) (h.at.set i u)
/-- What is held alone may be given to all, for good. -/
theorem Sat.give (h : Sat w0 (Pt b t cs * F) w) {o : Nat} {xs : List Value} (hx : ∀ j (hj : j < xs.length), cs[o + j]? = some xs[j]) : Sat w0 (Ro (some ⟨b, o, none⟩) xs * F) w := by
  obtain ⟨_, h1, a, f, h2, rfl, rfl, hf⟩ := h.hp
  have hn : f b = none := by
    have := h2 b
    unfold one1 at this
    rw [if_pos rfl] at this
    rcases this with e | e | ⟨q, e, _⟩
    · cases e
    · exact e
    · simp at e
  refine ⟨h.chg, (one1 b (true, .cells cs t (0, 0))).un f, fun q y hy => ?_, _, f, fun q => ?_, rfl, ⟨fun k x hx => ?_, fun _ => ⟨b, o, cs, t, (0, 0), rfl, by unfold one1; simp, hx⟩⟩, hf⟩
  · unfold Hp.un one1 at hy
    by_cases e : q = b
    · subst e
      rw [if_pos rfl] at hy
      injection hy with hy
      subst hy
      exact ⟨h.at, fun e => (by cases e)⟩
    · rw [if_neg e] at hy
      exact h1 q y (by unfold Hp.un one1; rw [if_neg e]; exact hy)
  · by_cases e : q = b
    · subst e; exact .inr (.inl hn)
    · left; unfold one1; rw [if_neg e]
  · unfold one1 at hx
    split at hx
    · injection hx with hx; subst hx; rfl
    · cases hx
theorem Sat.rdv {Ad : Option Addr} {xs : List Value} (h : Sat w0 (Ro Ad xs * F) w) : RdV w Ad xs := fun hx => by
  obtain ⟨_, h1, a, f, h2, rfl, ⟨ha, ha2⟩, hf⟩ := h.hp
  obtain ⟨b, o, cs, t, fr, rfl, hb, hc⟩ := ha2 hx
  refine ⟨b, o, rfl, fun j hj => ?_⟩
  have := (h1 b (true, .cells cs t fr) (by unfold Hp.un; rw [hb]; rfl)).1
  rw [cell_of_row w b (o + j) cs t fr this]
  exact hc j hj
theorem Sat.rd {Ad : Option Addr} {l : List UInt8} (h : Sat w0 (Rb Ad l * F) w) : Rd w Ad l := Sat.rdv h
theorem ro_dup (Ad : Option Addr) (xs : List Value) : Ro Ad xs * Ro Ad xs = Ro Ad xs := by
  funext h
  refine propext ⟨?_, fun hh => ⟨h, h, fun k => ?_, funext fun k => ?_, hh, hh⟩⟩
  · rintro ⟨a, b, h1, rfl, ⟨h2, h3⟩, h4, h5⟩
    refine ⟨fun k x hx => ?_, fun hx => ?_⟩
    · unfold Hp.un jn at hx
      cases ha : a k with
      | none => rw [ha] at hx; exact h4 k x hx
      | some y => rw [ha] at hx; injection hx with hx; subst hx; exact h2 k _ ha
    · obtain ⟨b', o, cs, t, fr, rfl, hb, hc⟩ := h3 hx
      exact ⟨b', o, cs, t, fr, rfl, by unfold Hp.un; rw [hb]; rfl, hc⟩
  · cases hk : h k with
    | none => exact .inl rfl
    | some x => have := hh.1 k x hk; obtain ⟨q, o⟩ := x; cases this; exact .inr (.inr ⟨o, rfl, rfl⟩)
  · unfold Hp.un jn; cases h k <;> rfl
theorem rb_dup (Ad : Option Addr) (l : List UInt8) : Rb Ad l * Rb Ad l = Rb Ad l := ro_dup _ _
theorem Sat.dup {Ad : Option Addr} {l : List UInt8} (h : Sat w0 (Rb Ad l * F) w) : Sat w0 (Rb Ad l * (Rb Ad l * F)) w := h.of (by rw [← star_assoc, rb_dup])
theorem ro_nil (Ad : Option Addr) : Emp = Emp * Emp := (star_emp Emp).symm
theorem Sat.roNil (h : Sat w0 F w) (Ad : Option Addr) : Sat w0 (Ro Ad [] * F) w :=
  (h.of (emp_star F).symm).mono fun x ⟨a, f, h1, h2, h3, h4⟩ => ⟨a, f, h1, h2, ⟨fun k y hy => (by unfold Emp at h3; rw [h3] at hy; cases hy), fun h => absurd rfl h⟩, h4⟩
/-- What was there at the start may be read for good. -/
theorem Sat.arg {Ad : Option Addr} {xs : List Value} (h : Sat w0 F w) (hr : RdV w0 Ad xs) : Sat w0 (Ro Ad xs * F) w := by
  by_cases hx : xs = []
  · subst hx; exact h.roNil Ad
  obtain ⟨b, o, rfl, hc⟩ := hr hx
  have hl := World.block_lt_of_cell? w0 _ (hc 0 (List.length_pos_iff.2 hx))
  have hl : b < w0.heap.size := hl
  obtain ⟨cs, t, fr, hb⟩ : ∃ cs t fr, w0.heap[b]? = some (.cells cs t fr) := by
    have h0 := hc 0 (List.length_pos_iff.2 hx)
    unfold World.cell? at h0
    split at h0
    · rename_i cs t fr he; exact ⟨cs, t, fr, he⟩
    · cases h0
  obtain ⟨x, h1, h2⟩ := h.hp
  have hw : w.heap[b]? = some (.cells cs t fr) := (h.chg.block b hl id).trans hb
  have hxb : x b = none ∨ x b = some (true, .cells cs t fr) := by
    cases hk : x b with
    | none => exact .inl rfl
    | some y =>
      obtain ⟨q, o'⟩ := y
      have := h1 b _ hk
      rw [hw] at this
      injection this.1 with e
      cases q with
      | false => have := this.2 rfl; omega
      | true => right; rw [e]
  refine ⟨h.chg, (one1 b (true, .cells cs t fr)).un x, fun q y hy => ?_, _, x, fun q => ?_, rfl, ⟨fun k y hy => ?_, fun _ => ⟨b, o, cs, t, fr, rfl, by unfold one1; simp, fun j hj => ?_⟩⟩, h2⟩
  · unfold Hp.un one1 at hy
    by_cases e : q = b
    · subst e
      rw [if_pos rfl] at hy
      injection hy with hy
      subst hy
      exact ⟨hw, fun e => (by cases e)⟩
    · rw [if_neg e] at hy
      exact h1 q y hy
  · by_cases e : q = b
    · subst e
      rcases hxb with e | e
      · exact .inr (.inl e)
      · exact .inr (.inr ⟨_, (by unfold one1; simp), e⟩)
    · left; unfold one1; rw [if_neg e]
  · unfold one1 at hy
    split at hy
    · injection hy with hy; subst hy; rfl
    · cases hy
  · rw [← cell_of_row w0 b (o + j) cs t fr hb]
    exact hc j hj
theorem Sat.argB {Ad : Option Addr} {l : List UInt8} (h : Sat w0 F w) (hr : Rd w0 Ad l) : Sat w0 (Rb Ad l * F) w := h.arg hr
/-- What a call has made of new memory, and nobody else holds. -/
theorem Sat.gotRo {e : TypeId} {v : Value} {n : Nat} {xs : List Value} (h : Sat w0 F w) (k : Chg No w w') (hown : w'.ownsRow w.heap.size e 1 v n xs) : ∃ Ad c, v = .slice Ad n c ∧ n ≤ c ∧ c ≤ maxLen ∧ Sat w0 (Ro Ad xs * F) w' := by
  by_cases hv : v = .slice none 0 0
  · subst hv
    obtain ⟨rfl, rfl⟩ := own_nil hown
    exact ⟨none, 0, rfl, Nat.le_refl _, Nat.zero_le _, (h.new k).roNil _⟩
  · obtain ⟨g, cap, cur, rfl, h2, h3, h4, h5, h6, h7⟩ := own_form hown hv
    refine ⟨_, _, rfl, h4, h5, Sat.give (h.take k h2 h3) (fun j hj => ?_)⟩
    rw [Nat.zero_add]; exact h7 j hj
theorem Sat.ex {α : Type} {B : α → SP} (h : Sat w0 (SP.ex B * F) w) : ∃ x, Sat w0 (B x * F) w := by
  obtain ⟨c, x, h1, a, f, h2, h3, ⟨y, h4⟩, h5⟩ := h
  exact ⟨y, c, x, h1, a, f, h2, h3, h4, h5⟩
theorem Sat.exI {α : Type} {B : α → SP} (x : α) (h : Sat w0 (B x * F) w) : Sat w0 (SP.ex B * F) w := h.mono fun y ⟨a, f, h2, h3, h5, h6⟩ => ⟨a, f, h2, h3, ⟨x, h5⟩, h6⟩
theorem Sat.pure {φ : Prop} (h : Sat w0 (SP.and φ A * F) w) : φ ∧ Sat w0 (A * F) w := by
  obtain ⟨c, x, h1, a, f, h2, h3, ⟨h4, h5⟩, h6⟩ := h
  exact ⟨h4, c, x, h1, a, f, h2, h3, h5, h6⟩
theorem Sat.pureI {φ : Prop} (p : φ) (h : Sat w0 (A * F) w) : Sat w0 (SP.and φ A * F) w := h.mono fun y ⟨a, f, h2, h3, h5, h6⟩ => ⟨a, f, h2, h3, ⟨p, h5⟩, h6⟩
theorem Sat.part (h : Sat w0 (Ow b o * F) w) : ∃ f, F f ∧ f b = none ∧ ∀ k x, f k = some x → w.heap[k]? = some x.2 ∧ (x.1 = false → w0.heap.size ≤ k) := by
  obtain ⟨_, h1, a, f, h2, rfl, rfl, hf⟩ := h.hp
  have hn : f b = none := by
    have := h2 b
    unfold one1 at this
    rw [if_pos rfl] at this
    rcases this with e | e | ⟨q, e, _⟩
    · cases e
    · exact e
    · simp at e
  refine ⟨f, hf, hn, fun k x hx => h1 k x ?_⟩
  unfold Hp.un one1
  by_cases e : k = b
  · rw [e, hn] at hx; cases hx
  · rw [if_neg e]; exact hx
/-- One is written on and let go, and a new one held. -/
theorem Sat.loseTake {b' : Nat} {o' : Obj} (h : Sat w0 (Ow b o * F) w) (k : Chg (One b) w w') (hb : w.heap.size ≤ b') (ho : w'.heap[b']? = some o') : Sat w0 (Ow b' o' * F) w' := by
  have hbase := h.base
  have hsz := h.size
  obtain ⟨f, hf, hn, h1⟩ := h.part
  refine ⟨h.chg.own k (fun i hi => by cases hi; exact hbase), (one1 b' (false, o')).un f, fun q y hy => ?_, _, f, fun q => ?_, rfl, rfl, hf⟩
  · unfold Hp.un one1 at hy
    by_cases e : q = b'
    · subst e
      rw [if_pos rfl] at hy
      injection hy with hy
      subst hy
      exact ⟨ho, fun _ => Nat.le_trans hsz hb⟩
    · rw [if_neg e] at hy
      have := h1 q y hy
      refine ⟨?_, this.2⟩
      rw [k.block q (lt_of_block this.1) (fun e => by have hy' : f q = some y := hy; rw [show q = b from e, hn] at hy'; cases hy')]
      exact this.1
  · unfold one1
    by_cases e : q = b'
    · right; left
      cases hx : f q with
      | none => rfl
      | some y => have := lt_of_block (h1 q y hx).1; omega
    · exact .inl (if_neg e)
/-- What one held is written on, and let go. -/
theorem Sat.lose (h : Sat w0 (Ow b o * F) w) (k : Chg (One b) w w') (hb : b < w'.heap.size) : Sat w0 F w' := by
  obtain ⟨o', ho⟩ : ∃ o', w'.heap[b]? = some o' := ⟨_, Array.getElem?_eq_getElem hb⟩
  exact (h.turn k ho).right

/-- A row of one's own, to be written on: nil, or from the head of a block. -/
def Row (e : TypeId) (size : Nat) (v : Value) (n : Nat) (xs : List Value) : SP := fun h => xs.length = n * size ∧
  ((v = .slice none 0 0 ∧ n = 0 ∧ Emp h) ∨ ∃ g cap cur, v = .slice (some ⟨g, 0, none⟩) n cap ∧ n ≤ cap ∧ cap ≤ maxLen ∧ cur.size = cap * size ∧ cur.toList.take (n * size) = xs ∧ Pt g e cur h)
variable {e : TypeId} {size m : Nat} {xs ys : List Value}
theorem Sat.row_cases (h : Sat w0 (Row e size v n xs * F) w) : xs.length = n * size ∧ ((v = .slice none 0 0 ∧ n = 0 ∧ Sat w0 F w) ∨
    ∃ g cap cur, v = .slice (some ⟨g, 0, none⟩) n cap ∧ n ≤ cap ∧ cap ≤ maxLen ∧ cur.size = cap * size ∧ cur.toList.take (n * size) = xs ∧ Sat w0 (Pt g e cur * F) w) := by
  obtain ⟨c, x, h1, a, f, h2, h3, ⟨hl, h4⟩, h5⟩ := h
  refine ⟨hl, ?_⟩
  rcases h4 with ⟨e1, e2, e3⟩ | ⟨g, cap, cur, e1, e2, e3, e4, e5, e6⟩
  · refine .inl ⟨e1, e2, ?_⟩
    have := Sat.mk (w0 := w0) (w := w) (A := Emp * F) c ⟨x, h1, a, f, h2, h3, e3, h5⟩
    exact this.of (emp_star F)
  · exact .inr ⟨g, cap, cur, e1, e2, e3, e4, e5, ⟨c, x, h1, a, f, h2, h3, e6, h5⟩⟩
theorem Sat.row_nil (h : Sat w0 F w) (e : TypeId) (size : Nat) : Sat w0 (Row e size (.slice none 0 0) 0 [] * F) w :=
  (h.of (emp_star F).symm).mono fun x ⟨a, f, h1, h2, h3, h4⟩ => ⟨a, f, h1, h2, ⟨by simp, .inl ⟨rfl, rfl, h3⟩⟩, h4⟩
theorem Sat.row_pt {g cap : Nat} {cur : Array Value} (h : Sat w0 (Pt g e cur * F) w) (h1 : n ≤ cap) (h2 : cap ≤ maxLen) (h3 : cur.size = cap * size) : Sat w0 (Row e size (.slice (some ⟨g, 0, none⟩) n cap) n (cur.toList.take (n * size)) * F) w :=
  h.mono fun x ⟨a, f, k1, k2, k3, k4⟩ => ⟨a, f, k1, k2, ⟨by rw [List.length_take, Array.length_toList, h3]; exact Nat.min_eq_left (Nat.mul_le_mul_right _ h1), .inr ⟨g, cap, cur, rfl, h1, h2, h3, rfl, k3⟩⟩, k4⟩
theorem Sat.row_own (h : Sat w0 (Row e size v n xs * F) w) : w.ownsRow w0.heap.size e size v n xs := by
  obtain ⟨hl, ⟨rfl, rfl, _⟩ | ⟨g, cap, cur, rfl, h1, h2, h3, h4, h5⟩⟩ := h.row_cases
  · exact ⟨hl, .inl ⟨rfl, rfl⟩⟩
  · exact ⟨hl, .inr ⟨g, cap, cur, rfl, h5.base, h5.block, h1, h2, h3, h4⟩⟩
/-- What a call has made of new memory. -/
theorem Sat.gotRow (h : Sat w0 F w) (k : Chg No w w') (hown : w'.ownsRow w.heap.size e size v n xs) : Sat w0 (Row e size v n xs * F) w' := by
  rcases hown.2 with ⟨rfl, rfl⟩ | ⟨g, cap, cur, rfl, h1, h2, h3, h4, h5, h6⟩
  · have : xs = [] := List.eq_nil_of_length_eq_zero (by simpa using hown.1)
    subst this
    exact (h.new k).row_nil e size
  · rw [← h6]
    exact Sat.row_pt (h.take k h1 h2) h3 h4 h5
/-- What an append leaves. -/
theorem Sat.appd {base : Nat} {v' : Value} (h : Sat w0 (Row e size v n xs * F) w) (k : Appd base e size w v n m ys v' w') : Sat w0 (Row e size v' (n + m) ys * F) w' := by
  have hown := k.own
  obtain ⟨hl, ⟨rfl, rfl, h1⟩ | ⟨g, cap, cur, rfl, h1, h2, h3, h4, h5⟩⟩ := h.row_cases
  · have kc : Chg No w w' := k.chg.mono fun i _ hi => by simp [Value.ownBlock] at hi
    refine h1.gotRow kc ?_
    refine ⟨hown.1, ?_⟩
    rcases hown.2 with h2 | ⟨g, cap, cur, rfl, _, r⟩
    · exact .inl h2
    · refine .inr ⟨g, cap, cur, rfl, ?_, r⟩
      rcases k.at_ with h3 | h3
      · simp [Value.ownBlock] at h3
      · simp [Value.ownBlock] at h3; omega
  · have kc : Chg (One g) w w' := k.chg.mono fun i _ hi => by simp [Value.ownBlock] at hi; exact hi
    rcases hown.2 with ⟨rfl, hz⟩ | ⟨g', cap', cur', rfl, _, e1, e2, e3, e4, e5⟩
    · exact absurd (k.nil.1 rfl).1 (by simp)
    · rw [← e5]
      refine Sat.row_pt ?_ e2 e3 e4
      rcases k.at_ with q | q
      · simp [Value.ownBlock] at q
        subst q
        exact h5.turn kc e1
      · simp [Value.ownBlock] at q
        subst q
        exact Sat.loseTake h5 kc (Nat.le_refl _) e1
/-- To be read on: where it lies, what it reads as. -/
theorem Sat.row_rd (h : Sat w0 (Row e 1 v n xs * F) w) : ∃ Ad c, v = .slice Ad n c ∧ RdV w Ad xs ∧ n ≤ c ∧ c ≤ maxLen := by
  obtain ⟨A, c, h1, h2, h3, h4, _⟩ := own_rd h.row_own
  exact ⟨A, c, h1, h2, h3, h4⟩
/-- Written no more. -/
theorem Sat.row_ro (h : Sat w0 (Row e 1 v n xs * F) w) : ∃ Ad c, v = .slice Ad n c ∧ n ≤ c ∧ c ≤ maxLen ∧ Sat w0 (Ro Ad xs * F) w := by
  obtain ⟨hl, ⟨rfl, rfl, h1⟩ | ⟨g, cap, cur, rfl, h1, h2, h3, h4, h5⟩⟩ := h.row_cases
  · have : xs = [] := List.eq_nil_of_length_eq_zero (by simpa using hl)
    subst this
    exact ⟨none, 0, rfl, Nat.le_refl _, Nat.zero_le _, h1.roNil _⟩
  · refine ⟨_, _, rfl, h1, h2, h5.give fun j hj => ?_⟩
    have : xs[j]? = some xs[j] := List.getElem?_eq_getElem hj
    rw [Nat.zero_add, ← this, ← h4, List.getElem?_take, if_pos (by omega)]
    simp
end
section
variable {w0 w : World} {A B C D E G F : SP}
/-! One part ahead of the others, and back. -/
theorem Sat.up2 (h : Sat w0 (A * (B * F)) w) : Sat w0 (B * (A * F)) w := h.of (star_left _ _ _)
theorem Sat.up3 (h : Sat w0 (A * (B * (C * F))) w) : Sat w0 (C * (A * (B * F))) w := h.of (by rw [star_left B C, star_left A C])
theorem Sat.up4 (h : Sat w0 (A * (B * (C * (D * F)))) w) : Sat w0 (D * (A * (B * (C * F)))) w := h.of (by rw [star_left C D, star_left B D, star_left A D])
theorem Sat.up5 (h : Sat w0 (A * (B * (C * (D * (E * F))))) w) : Sat w0 (E * (A * (B * (C * (D * F))))) w := h.of (by rw [star_left D E, star_left C E, star_left B E, star_left A E])
theorem Sat.up6 (h : Sat w0 (A * (B * (C * (D * (E * (G * F)))))) w) : Sat w0 (G * (A * (B * (C * (D * (E * F)))))) w := h.of (by rw [star_left E G, star_left D G, star_left C G, star_left B G, star_left A G])
theorem Sat.dn3 (h : Sat w0 (C * (A * (B * F))) w) : Sat w0 (A * (B * (C * F))) w := h.of (by rw [star_left B C, star_left A C])
theorem Sat.dn4 (h : Sat w0 (D * (A * (B * (C * F)))) w) : Sat w0 (A * (B * (C * (D * F)))) w := h.of (by rw [star_left C D, star_left B D, star_left A D])
theorem Sat.dn5 (h : Sat w0 (E * (A * (B * (C * (D * F))))) w) : Sat w0 (A * (B * (C * (D * (E * F))))) w := h.of (by rw [star_left D E, star_left C E, star_left B E, star_left A E])
theorem Sat.dn6 (h : Sat w0 (G * (A * (B * (C * (D * (E * F)))))) w) : Sat w0 (A * (B * (C * (D * (E * (G * F)))))) w := h.of (by rw [star_left E G, star_left D G, star_left C G, star_left B G, star_left A G])
theorem Sat.drop2 (h : Sat w0 (A * (B * F)) w) : Sat w0 (A * F) w := h.up2.right
end
end Go.Proofs.Ytaoenbjfkahdjaa
namespace Go.Proofs.Ytaoenbjfkahdjaa
open Go.RowKit
set_option linter.unusedVariables false
set_option maxRecDepth 100000

theorem info_u8 : (Try.prog.info? 5).map (fun i => (i.zero, i.size, i.bytes)) = some (some (.int .u8 0), 1, 1) := by kernel_rfl

/-- n noughts, as cells. -/
def noughts (n : Nat) : Array Value := ((List.replicate n (0 : UInt8)).map bv).toArray
theorem noughts_made (n : Nat) : madeCells #[.int .u8 0] n = noughts n := by
  apply Array.ext'
  apply List.ext_getElem?
  intro j
  simp [madeCells, noughts, List.getElem?_replicate]
  by_cases h : j < n
  · simp [h, bv]
    rw [Nat.mod_one]
    rfl
  · simp [h]
theorem make_bytes (n : Nat) (hn : n ≤ 140737488355330) (W : World) : (Instr.makeSlice 32 (.int .i64 (n : Int)) (.int .i64 (n : Int))).run Try.prog W =
    .ok (.slice (some ⟨W.heap.size, 0, none⟩) n n) (W.alloc (.cells (noughts n) 5)) := by
  obtain ⟨i0, hi, hz0, hz1, hz2⟩ := info_parts info_u8
  have hr := run_make (P := Try.prog) W 32 5 i0 _ Try.underlying32 hi hz0 .i64 .i64 n n (by omega) (by omega) (by rw [hz2]; omega) (by omega)
  have hc : (Value.int .u8 0).cells = #[.int .u8 0] := rfl
  simpa [hz1, hc, noughts_made] using hr
theorem make_512 (W : World) : (Instr.makeSlice 32 (.int .i64 512) (.int .i64 512)).run Try.prog W = .ok (.slice (some ⟨W.heap.size, 0, none⟩) 512 512) (W.alloc (.cells (noughts 512) 5)) := make_bytes 512 (by omega) W

theorem same_any (A B : Option Addr) (c d : Nat) (l r : List UInt8) (w : World) (ha : Rd w A l) (hb : Rd w B r) :
    Calls Try.prog 27 #[.slice A l.length c, .slice B r.length d] w fun e w' => e = .returned (.bool (l == r)) ∧ w = w' := by
  have h1 := ha.str (P := Try.prog) 32 9 5 Try.underlying32 Try.underlying5 Try.underlying9 c
  have h2 := hb.str (P := Try.prog) 32 9 5 Try.underlying32 Try.underlying5 Try.underlying9 d
  clear ha hb
  go_enter Try.func27, Try.ntmps27
  go_wp2
  go_ret
  exact ⟨rfl, rfl⟩

/-- Twin: a row of its own. -/
def Twinned (l : List UInt8) (w : World) (e : Ending) (w' : World) : Prop :=
  ∃ v, e = .returned v ∧ w'.ownsRow w.heap.size 5 1 v l.length (l.map bv) ∧ Chg No w w'
theorem twin_any (A : Option Addr) (c : Nat) (l : List UInt8) (w : World) (h : Rd w A l) (hl : l.length ≤ 140737488355328) :
    Calls Try.prog 78 #[.slice A l.length c] w (Twinned l w) := by
  obtain ⟨i0, hi, hz0, hz1, hz2⟩ := info_parts info_u8
  have hmax : l.length ≤ maxLen := by unfold maxLen; omega
  have HL := Lib.hid h
  clear h
  go_enter Try.func78, Try.ntmps78
  go_wp2_with (at_builtin; refine wpList_app rfl (.tmp 4) (.tmp 5) 32 rfl w.heap.size 5 i0 _ 1 1 Try.underlying32 hi hz0 hz1 hz2 rfl (by decide) (.slice none 0 0) 0 [] rfl (World.ownsRow_nil _ _ _ _) A l.length c (l.map bv) rfl HL.out (by simp) (bv_one l) (by omega) (by omega) (Nat.le_refl _) ?_; intro v1 w1 hap)
  go_ret
  have hown := hap.own
  refine ⟨v1, rfl, by simpa using hown, hap.old (Chg.refl No w) (World.ownsRow_nil w w.heap.size 5 1) (Nat.le_refl _)⟩
end Go.Proofs.Ytaoenbjfkahdjaa
