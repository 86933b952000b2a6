/- Joined, as they were built one by one: Clone Mem1 Mem2 Mem3 Mem4 Skip Skip1 Skip2 Skip3. -/
import Derived.Lib.Bytealg
import Derived.Lib.UnsafeStr
import Derived.Laws.Externs
import Derived.StringKeys
import Derived.Test.YtaoenbjfkahdjaaQ01
import Derived.Test.YtaoenbjfkahdjaaQ02
namespace Go.Proofs.Ytaoenbjfkahdjaa
open Go.RowKit
set_option linter.unusedVariables false
set_option maxRecDepth 100000

/-- What slices.Clone gives: a row of its own; nil of nil alone. -/
def Cloned (l : List UInt8) (A : Option Addr) (w : World) (e : Ending) (w' : World) : Prop :=
  ∃ v, e = .returned v ∧ w'.ownsRow w.heap.size 5 1 v l.length (l.map bv) ∧ (v = .slice none 0 0 ↔ A = none) ∧ Chg No w w'

theorem clone_any (A : Option Addr) (c : Nat) (l : List UInt8) (w : World) (h : Rd w A l) (hl : l.length ≤ 140737488355328) :
    Calls Try.prog 87 #[.slice A l.length c] w (Cloned l A w) := by
  have hmax : l.length ≤ maxLen := by unfold maxLen; omega
  rcases A with _ | ad
  · have hl0 : l = [] := by
      rcases l with _ | ⟨x, l⟩
      · rfl
      · obtain ⟨b, o, e, _⟩ := h (by simp); cases e
    subst hl0
    have hnil := fun (W : World) (A : Option Addr) (n c : Nat) => Lib.run_eql_slice_nil (P := Try.prog) W 32 5 A n c 0 0 Try.underlying32
    go_enter Try.func87, Try.ntmps87
    go_wp2
    go_ret
    exact ⟨_, rfl, World.ownsRow_nil _ _ _ _, by simp, Chg.refl _ _⟩
  · obtain ⟨i0, hi, hz0, hz1, hz2⟩ := info_parts info_u8
    have hnil := fun (W : World) (A : Option Addr) (n c : Nat) => Lib.run_eql_slice_nil (P := Try.prog) W 32 5 A n c 0 0 Try.underlying32
    go_enter Try.func87, Try.ntmps87
    have HL := Lib.hid h
    clear h
    go_wp2_with (at_builtin; refine wpList_app rfl (.tmp 5) (.tmp 6) 32 rfl w.heap.size 5 i0 _ 1 1 Try.underlying32 hi hz0 hz1 hz2 rfl (by decide) (.slice (some ⟨w.heap.size, 0, none⟩) 0 0) 0 [] rfl (own_lit w 5 #[] (Nat.zero_le _)) (some ad) l.length c (l.map bv) rfl ((HL.out).alloc _) (by simp) (bv_one l) (by omega) (by omega) (by simp) ?_; intro v1 w1 hap)
    go_ret
    have hown := hap.own
    have hn := hap.nil
    refine ⟨v1, rfl, by simpa using hown, by simpa using hn, hap.old ((Chg.refl No w).alloc _) (own_lit w 5 #[] (Nat.zero_le _)) (Nat.le_refl _)⟩

end Go.Proofs.Ytaoenbjfkahdjaa
namespace Go.Proofs.Ytaoenbjfkahdjaa
open Go.RowKit
set_option linter.unusedVariables false
set_option maxRecDepth 100000

/-- An entry where it lies. -/
structure En where
  key : Slc
  value : Slc
  seq : Int
  dead : Bool
/-- What an entry says. -/
structure Ent where
  key : List UInt8
  value : List UInt8
  seq : Int
  dead : Bool
def En.ent (e : En) : Ent := ⟨e.key.2.2, e.value.2.2, e.seq, e.dead⟩
def slv' (s : Slc) : Value := .slice s.1 s.2.2.length s.2.1
def enV (e : En) : List Value := [slv' e.key, slv' e.value, .int .i64 e.seq, .bool e.dead]
def enA (e : En) : Value := .agg #[.slice e.key.1 e.key.2.2.length e.key.2.1, .slice e.value.1 e.value.2.2.length e.value.2.1, .int .i64 e.seq, .bool e.dead]
/-- What may be read of an entry. -/
def EnR (w : World) (e : En) : Prop := Rd w e.key.1 e.key.2.2 ∧ Rd w e.value.1 e.value.2.2
theorem EnR.new {w w' : World} {e : En} (h : EnR w e) (k : Chg No w w') : EnR w' e := ⟨h.1.new k, h.2.new k⟩
def ordE (a b : Ent) : Int := if Lib.compareBytes a.key b.key = 0 then (if b.seq < a.seq then -1 else if a.seq < b.seq then 1 else 0) else Lib.compareBytes a.key b.key
def lessE (a b : Ent) : Bool := decide (ordE a b < 0)
section
variable {P : Program} {w : World} {A B : Option Addr} {l m : List UInt8}
theorem run_load8 : ∀ (l : List UInt8) (b o : Nat) (acc : ByteArray), (∀ j (hj : j < l.length), w.cell? ⟨b, o + j, none⟩ = some (.int .u8 (l[j].toNat : Int))) →
    (Extern.Bytes.loadBytes ⟨b, o, none⟩ l.length acc).run P w = .ok ⟨acc.data ++ l.toArray⟩ w
  | [], b, o, acc, _ => by simp [Extern.Bytes.loadBytes]
  | x :: l, b, o, acc, h => by
    have h0 : w.cell? ⟨b, o, none⟩ = some (.int .u8 (x.toNat : Int)) := h 0 (by simp)
    have ih := run_load8 l b (o + 1) (acc.push x) (fun j hj => by
      have := h (j + 1) (by simpa using hj)
      rw [show o + 1 + j = o + (j + 1) by omega]
      exact this)
    simp only [List.length_cons, Extern.Bytes.loadBytes, Sem.run_bind, run_load, h0, Result.andThen]
    have e : ((x.toNat : Int).toNat.toUInt8) = x := by simp
    rw [e]
    show (Extern.Bytes.loadBytes (Addr.add ⟨b, o, none⟩ 1) l.length (acc.push x)).run P w = _
    rw [show (Addr.add ⟨b, o, none⟩ 1) = ⟨b, o + 1, none⟩ from rfl, ih]
    congr 1
    apply ByteArray.ext
    simp [ByteArray.push]
theorem run_bytesOf (h : Rd w A l) (c : Nat) : (Extern.Bytes.bytesOf (.slice A l.length c)).run P w = .ok ⟨l.toArray⟩ w := by
  rcases A with _ | a
  · have hl : l = [] := by
      rcases l with _ | ⟨x, l⟩
      · rfl
      · obtain ⟨b, o, e, _⟩ := h (by simp); cases e
    subst hl
    rfl
  · by_cases hl : l = []
    · subst hl; rfl
    · obtain ⟨b, o, e, _⟩ := h.get (j := 0) (List.length_pos_iff.2 hl)
      injection e with e
      subst e
      have := run_load8 (P := P) (w := w) l b o .empty (fun j hj => by
        obtain ⟨b', o', e, hc⟩ := h.get hj
        injection e with e
        injection e with e1 e2
        subst e1; subst e2
        exact hc)
      show (Extern.Bytes.loadBytes ⟨b, o, none⟩ l.length .empty).run P w = _
      rw [this]
      congr 1
      apply ByteArray.ext
      simp
theorem run_cmpB (h : Rd w A l) (k : Rd w B m) (c d : Nat) : (Extern.BytealgCompare.compare #[.slice A l.length c, .slice B m.length d]).run P w = .ok (.int .i64 (Lib.compareBytes l m)) w := by
  change Sem.run P (do pure (goInt (Extern.BytealgCompare.cmp (← Extern.Bytes.bytesOf (.slice A l.length c)) (← Extern.Bytes.bytesOf (.slice B m.length d))))) w = _
  simp only [Sem.run_bind, Sem.run_pure, run_bytesOf h, run_bytesOf k, Result.andThen]
  rw [Lib.cmp_eq]
  rfl
end
set_option maxRecDepth 100000 in
theorem cmpB_any (a b : Slc) (w : World) (h : Rd w a.1 a.2.2) (k : Rd w b.1 b.2.2) :
    Calls Try.prog 65 #[.slice a.1 a.2.2.length a.2.1, .slice b.1 b.2.2.length b.2.1] w fun e w' => e = .returned (.int .i64 (Lib.compareBytes a.2.2 b.2.2)) ∧ w' = w := by
  go_enter Try.func65, Try.ntmps65
  go_wp2
  rw [run_callFunc_extern Try.func97 (by kernel_rfl) (by kernel_rfl) (by kernel_rfl) (e := Extern.BytealgCompare.compare) (by kernel_rfl), run_cmpB h k]
  simp only [Result.andThen]
  rw [Oper.upon_value]
  go_wp2
  go_ret
  exact ⟨rfl, rfl⟩
theorem nanI_any (x : Int) (w : World) : Calls Try.prog 105 #[.int .i64 x] w fun e w' => e = .returned (.bool false) ∧ w' = w := by
  go_enter Try.func105, Try.ntmps105
  go_wp2
  go_ret
  exact ⟨by simp, rfl⟩
def cmpI (a b : Int) : Int := if a < b then -1 else if b < a then 1 else 0
theorem cmpI_any (a b : Int) (w : World) : Calls Try.prog 89 #[.int .i64 a, .int .i64 b] w fun e w' => e = .returned (.int .i64 (cmpI a b)) ∧ w' = w := by
  unfold cmpI
  go_enter Try.func89, Try.ntmps89
  go_wp2_with (go_at_call 105; refine (nanI_any _ _).mono ?_; rintro e w' ⟨rfl, rfl⟩)
  all_goals (go_ret; refine ⟨?_, rfl⟩; simp <;> omega)
theorem ordE_eq (a b : Ent) (c : Int) (h : Lib.compareBytes a.key b.key = c) : ordE a b = if c = 0 then cmpI b.seq a.seq else c := by unfold ordE cmpI; rw [h]
theorem order_any (a b : En) (w : World) (h : EnR w a) (k : EnR w b) :
    Calls Try.prog 47 #[enA a, enA b] w fun e w' => e = .returned (.int .i64 (ordE a.ent b.ent)) ∧ Chg No w w' := by
  have HQ : Hid (ordE a.ent b.ent = if Lib.compareBytes a.key.2.2 b.key.2.2 = 0 then cmpI b.seq a.seq else Lib.compareBytes a.key.2.2 b.key.2.2) := ordE_eq _ _ _ rfl
  unfold enA
  go_enter Try.func47, Try.ntmps47
  have HL := Lib.hid h
  have HK := Lib.hid k
  clear h k
  go_wp2_with (first
    | (go_at_call 65; refine (cmpB_any a.key b.key _ (HL.out.1.alloc _ |>.alloc _) (HK.out.1.alloc _ |>.alloc _)).mono ?_; rintro e w' ⟨rfl, rfl⟩)
    | (go_at_call 89; refine (cmpI_any _ _ _).mono ?_; rintro e w' ⟨rfl, rfl⟩))
  · go_ret
    have hn : ¬ Lib.compareBytes a.key.2.2 b.key.2.2 = 0 := by first | assumption | simp_all
    exact ⟨by rw [HQ.out, if_neg hn]; rfl, ((Chg.refl No w).alloc _).alloc _⟩
  · go_ret
    have hn : Lib.compareBytes a.key.2.2 b.key.2.2 = 0 := by first | assumption | simp_all
    exact ⟨by rw [HQ.out, if_pos hn]; rfl, ((Chg.refl No w).alloc _).alloc _⟩
theorem less_any (a b : En) (w : World) (h : EnR w a) (k : EnR w b) :
    Calls Try.prog 69 #[enA a, enA b] w fun e w' => e = .returned (.bool (lessE a.ent b.ent)) ∧ Chg No w w' := by
  have HQ : Hid (lessE a.ent b.ent = decide (ordE a.ent b.ent < 0)) := rfl
  have HE : Hid (∀ e : En, enA e = .agg #[.slice e.key.1 e.key.2.2.length e.key.2.1, .slice e.value.1 e.value.2.2.length e.value.2.1, .int .i64 e.seq, .bool e.dead]) := fun _ => rfl
  rw [HE.out, HE.out]
  go_enter Try.func69, Try.ntmps69
  have HL := Lib.hid h
  have HK := Lib.hid k
  clear h k
  have k0 : Chg No w ((w.alloc (.cells #[.slice a.key.1 a.key.2.2.length a.key.2.1, .slice a.value.1 a.value.2.2.length a.value.2.1, .int .i64 a.seq, .bool a.dead] 34)).alloc (.cells #[.slice b.key.1 b.key.2.2.length b.key.2.1, .slice b.value.1 b.value.2.2.length b.value.2.1, .int .i64 b.seq, .bool b.dead] 34)) := ((Chg.refl No w).alloc _).alloc _
  go_wp2_with (go_at_call 47; rw [← HE.out, ← HE.out]; refine (order_any a b _ (HL.out.new k0) (HK.out.new k0)).mono ?_; rintro e w' ⟨rfl, k1⟩)
  go_ret
  refine ⟨by rw [HQ.out]; rfl, k0.tr k1⟩
end Go.Proofs.Ytaoenbjfkahdjaa
namespace Go.Proofs.Ytaoenbjfkahdjaa
open Go.RowKit
set_option linter.unusedVariables false
set_option maxRecDepth 100000

theorem cb_refl : ∀ a : List UInt8, Lib.compareBytes a a = 0
  | [] => rfl
  | x :: a => by unfold Lib.compareBytes; rw [if_neg (UInt8.lt_irrefl x), if_neg (UInt8.lt_irrefl x)]; exact cb_refl a
theorem u8_tri (x y : UInt8) (h1 : ¬ x < y) (h2 : ¬ y < x) : x = y := UInt8.le_antisymm (UInt8.not_lt.1 h2) (UInt8.not_lt.1 h1)
theorem cb_eq : ∀ {a b : List UInt8}, Lib.compareBytes a b = 0 → a = b
  | [], [], _ => rfl
  | [], _ :: _, h => by simp [Lib.compareBytes] at h
  | _ :: _, [], h => by simp [Lib.compareBytes] at h
  | x :: a, y :: b, h => by
    unfold Lib.compareBytes at h
    by_cases h1 : x < y
    · rw [if_pos h1] at h; omega
    · rw [if_neg h1] at h
      by_cases h2 : y < x
      · rw [if_pos h2] at h; omega
      · rw [if_neg h2] at h
        rw [u8_tri x y h1 h2, cb_eq h]
theorem cb_swap : ∀ (a b : List UInt8), Lib.compareBytes b a = - Lib.compareBytes a b
  | [], [] => rfl
  | [], _ :: _ => rfl
  | _ :: _, [] => rfl
  | x :: a, y :: b => by
    unfold Lib.compareBytes
    by_cases h1 : x < y
    · rw [if_pos h1, if_neg (UInt8.lt_asymm h1), if_pos h1]; rfl
    · rw [if_neg h1]
      by_cases h2 : y < x
      · rw [if_pos h2, if_neg h1, if_pos h2]
      · rw [if_neg h2, if_neg h2, if_neg h1]; exact cb_swap a b
theorem cb_less : ∀ (a b : List UInt8), Op.bytesLess a b = decide (Lib.compareBytes a b < 0)
  | [], [] => rfl
  | [], _ :: _ => rfl
  | _ :: _, [] => rfl
  | x :: a, y :: b => by
    unfold Lib.compareBytes Op.bytesLess
    by_cases h1 : x < y
    · rw [if_pos h1]; simp [h1]
    · rw [if_neg h1]
      by_cases h2 : y < x
      · have : ¬ x = y := fun e => by subst e; exact UInt8.lt_irrefl _ h2
        rw [if_pos h2]; simp [h1, this]
      · rw [if_neg h2, u8_tri x y h1 h2, cb_less a b]; simp
theorem cb_trans : ∀ {a b c : List UInt8}, Lib.compareBytes a b < 0 → Lib.compareBytes b c < 0 → Lib.compareBytes a c < 0
  | [], [], _, h, _ => by simp [Lib.compareBytes] at h
  | _ :: _, [], _, h, _ => by simp [Lib.compareBytes] at h
  | [], _ :: _, [], _, h => by simp [Lib.compareBytes] at h
  | [], _ :: _, _ :: _, _, _ => by simp [Lib.compareBytes]
  | _ :: _, _ :: _, [], _, h => by simp [Lib.compareBytes] at h
  | x :: a, y :: b, z :: c, h, k => by
    unfold Lib.compareBytes at h k ⊢
    by_cases h1 : x < y
    · by_cases k1 : y < z
      · rw [if_pos (UInt8.lt_trans h1 k1)]; omega
      · rw [if_neg k1] at k
        by_cases k2 : z < y
        · rw [if_pos k2] at k; omega
        · rw [← u8_tri y z k1 k2, if_pos h1]; omega
    · rw [if_neg h1] at h
      by_cases h2 : y < x
      · rw [if_pos h2] at h; omega
      · rw [if_neg h2] at h
        rw [u8_tri x y h1 h2]
        by_cases k1 : y < z
        · rw [if_pos k1]; omega
        · rw [if_neg k1] at k ⊢
          by_cases k2 : z < y
          · rw [if_pos k2] at k; omega
          · rw [if_neg k2] at k ⊢
            exact cb_trans h k
section
variable {a b c : Ent}
/-- a stands ahead of b. -/
def LTE (a b : Ent) : Prop := lessE a b = true
theorem lte_iff : LTE a b ↔ Lib.compareBytes a.key b.key < 0 ∨ (a.key = b.key ∧ b.seq < a.seq) := by
  unfold LTE lessE ordE
  by_cases h : Lib.compareBytes a.key b.key = 0
  · rw [if_pos h]
    have := cb_eq h
    have h0 : ¬ Lib.compareBytes a.key b.key < 0 := by omega
    by_cases h1 : b.seq < a.seq
    · rw [if_pos h1]; simp [this, h1]
    · rw [if_neg h1]
      by_cases h2 : a.seq < b.seq
      · rw [if_pos h2]; simp [h0, h1]
      · rw [if_neg h2]; simp [h0, h1]
  · rw [if_neg h]
    have : ¬ a.key = b.key := fun e => h (by rw [e]; exact cb_refl _)
    simp [this]
theorem lte_trans (h : LTE a b) (k : LTE b c) : LTE a c := by
  rw [lte_iff] at *
  rcases h with h | ⟨h, h'⟩ <;> rcases k with k | ⟨k, k'⟩
  · exact .inl (cb_trans h k)
  · rw [← k]; exact .inl h
  · rw [h]; exact .inl k
  · exact .inr ⟨h.trans k, by omega⟩
theorem lte_irr (a : Ent) : ¬ LTE a a := by rw [lte_iff, cb_refl]; simp
/-- One key, one number: no two of these may be in a table. -/
def same1 (a b : Ent) : Prop := a.key = b.key ∧ a.seq = b.seq
theorem ord_zero : ordE a b = 0 ↔ same1 a b := by
  unfold ordE same1
  by_cases h : Lib.compareBytes a.key b.key = 0
  · rw [if_pos h]
    have := cb_eq h
    by_cases h1 : b.seq < a.seq
    · rw [if_pos h1]; simp; intro _; omega
    · rw [if_neg h1]
      by_cases h2 : a.seq < b.seq
      · rw [if_pos h2]; simp; intro _; omega
      · rw [if_neg h2]; simp [this]; omega
  · rw [if_neg h]
    have : ¬ a.key = b.key := fun e => h (by rw [e]; exact cb_refl _)
    simp [this, h]
theorem lte_tri (a b : Ent) : LTE a b ∨ LTE b a ∨ same1 a b := by
  rw [lte_iff, lte_iff, cb_swap a.key b.key]
  unfold same1
  by_cases h : Lib.compareBytes a.key b.key = 0
  · have := cb_eq h
    rw [this]
    rcases Int.lt_trichotomy a.seq b.seq with q | q | q
    · exact .inr (.inl (.inr ⟨rfl, q⟩))
    · exact .inr (.inr ⟨rfl, q⟩)
    · exact .inl (.inr ⟨rfl, q⟩)
  · by_cases h1 : Lib.compareBytes a.key b.key < 0
    · exact .inl (.inl h1)
    · exact .inr (.inl (.inl (by omega)))
theorem same1_not (h : same1 a b) : ¬ LTE a b := by
  rw [lte_iff, h.1, h.2, cb_refl]; simp
theorem same1.symm (h : same1 a b) : same1 b a := ⟨h.1.symm, h.2.symm⟩
theorem lte_asymm (h : LTE a b) : ¬ LTE b a := fun k => lte_irr _ (lte_trans h k)
instance (a b : Ent) : Decidable (LTE a b) := inferInstanceAs (Decidable (_ = _))
end
end Go.Proofs.Ytaoenbjfkahdjaa
namespace Go.Proofs.Ytaoenbjfkahdjaa
open Go.RowKit
set_option linter.unusedVariables false
set_option maxRecDepth 100000

theorem flatK {α : Type} {f : α → List Value} {K : Nat} (hf : ∀ x, (f x).length = K) : ∀ (l : List α) (i j : Nat) (hi : i < l.length) (hj : j < K), (l.flatMap f)[i * K + j]? = (f l[i])[j]?
  | [], i, j, hi, hj => by simp at hi
  | x :: l, 0, j, hi, hj => by
    rw [List.flatMap_cons, Nat.zero_mul, Nat.zero_add, List.getElem?_append_left (by rw [hf]; exact hj)]; rfl
  | x :: l, i + 1, j, hi, hj => by
    have e : (i + 1) * K + j = K + (i * K + j) := by rw [Nat.add_mul, Nat.one_mul]; omega
    rw [List.flatMap_cons, List.getElem?_append_right (by rw [hf, e]; omega), hf, e]
    have := flatK hf l i j (by simpa using hi) hj
    rw [show K + (i * K + j) - K = i * K + j by omega, this]
    rfl
theorem flatK_len {α : Type} {f : α → List Value} {K : Nat} (hf : ∀ x, (f x).length = K) : ∀ (l : List α), (l.flatMap f).length = l.length * K
  | [] => by simp
  | x :: l => by rw [List.flatMap_cons, List.length_append, hf, flatK_len hf l, List.length_cons, Nat.add_mul, Nat.one_mul]; omega
theorem enV_len (e : En) : (enV e).length = 4 := rfl
section
variable {w w' : World} {A : Option Addr} {es : List En}
/-- A row of entries, where it lies. -/
theorem ents_at (h : RdV w A (es.flatMap enV)) (hn : 0 < es.length) : ∃ b o, A = some ⟨b, o, none⟩ ∧ ∀ i (hi : i < es.length),
    w.cell? ⟨b, o + i * 4, none⟩ = some (slv' es[i].key) ∧ w.cell? ⟨b, o + i * 4 + 1, none⟩ = some (slv' es[i].value) ∧ w.cell? ⟨b, o + i * 4 + 2, none⟩ = some (.int .i64 es[i].seq) ∧ w.cell? ⟨b, o + i * 4 + 3, none⟩ = some (.bool es[i].dead) := by
  have hl := flatK_len enV_len es
  obtain ⟨b, o, rfl, _⟩ := RdV.get h (j := 0) (by omega)
  refine ⟨b, o, rfl, fun i hi => ?_⟩
  have key : ∀ j, j < 4 → w.cell? ⟨b, o + i * 4 + j, none⟩ = (enV es[i])[j]? := fun j hj => by
    have hij : i * 4 + j < (es.flatMap enV).length := by omega
    obtain ⟨b', o', e, hc⟩ := RdV.get h hij
    injection e with e
    injection e with e1 e2
    subst e1; subst e2
    rw [Nat.add_assoc, hc, ← flatK enV_len es i j hi hj, List.getElem?_eq_getElem hij]
  exact ⟨key 0 (by omega), key 1 (by omega), key 2 (by omega), key 3 (by omega)⟩
/-- All of these may be read. -/
def EnsR (w : World) (es : List En) : Prop := ∀ e ∈ es, EnR w e
theorem EnsR.new (h : EnsR w es) (k : Chg No w w') : EnsR w' es := fun e he => (h e he).new k
end
def sortedB (l : List Ent) : Bool := (List.range (l.length - 1)).all fun i => match l[i]?, l[i + 1]? with | some a, some b => lessE a b | _, _ => true
theorem sortedB_iff (l : List Ent) : sortedB l = true ↔ ∀ i (hi : i + 1 < l.length), LTE (l[i]'(by omega)) l[i + 1] := by
  unfold sortedB
  rw [List.all_eq_true]
  constructor
  · intro h i hi
    have := h i (List.mem_range.2 (by omega))
    rw [List.getElem?_eq_getElem (by omega), List.getElem?_eq_getElem hi] at this
    exact this
  · intro h i hi
    have hi : i + 1 < l.length := by have := List.mem_range.1 hi; omega
    rw [List.getElem?_eq_getElem (by omega), List.getElem?_eq_getElem hi]
    exact h i hi
theorem sortedB_no (l : List Ent) (i : Nat) (hi : i + 1 < l.length) (h : lessE (l[i]'(by omega)) l[i + 1] = false) : sortedB l = false := by
  cases hs : sortedB l with
  | false => rfl
  | true => have := (sortedB_iff l).1 hs i hi; unfold LTE at this; rw [h] at this; cases this
set_option maxHeartbeats 1000000 in
theorem sorted_any (A : Option Addr) (c : Nat) (es : List En) (w : World) (h : RdV w A (es.flatMap enV)) (hr : EnsR w es) (hc : es.length ≤ c) (hm : c ≤ maxLen) :
    Calls Try.prog 49 #[.slice A es.length c] w fun e w' => e = .returned (.bool (sortedB (es.map En.ent))) ∧ Chg No w w' := by
  have HL := Lib.hid h
  have HR := Lib.hid hr
  have HE : Hid (∀ e : En, enA e = .agg #[.slice e.key.1 e.key.2.2.length e.key.2.1, .slice e.value.1 e.value.2.2.length e.value.2.1, .int .i64 e.seq, .bool e.dead]) := fun _ => rfl
  unfold maxLen at hm
  clear h hr
  go_enter Try.func49, Try.ntmps49
  go_wp2_with fail
  go_loopw [3] (fun i wr => ∃ k : Nat, 1 ≤ k ∧ (k ≤ es.length ∨ k = 1) ∧ i = .int .i64 k ∧ Hid (Chg No w wr ∧ ∀ i (hi : i + 1 < k) (hk : i + 1 < es.length), lessE (es[i]'(by omega)).ent es[i + 1].ent = true)) (fun i _ => es.length - (intOf i).toNat)
  case atStart => exact ⟨1, by omega, by omega, rfl, Chg.refl _ _, fun i hi => by omega⟩
  case round =>
    obtain ⟨k, hk1, hk2, rfl, HD⟩ := hrel
    by_cases hlt : k < es.length
    · obtain ⟨b, o, rfl, hq⟩ := ents_at (RdV.new HL.out HD.out.1) (by omega)
      obtain ⟨j, rfl⟩ : ∃ j, k = j + 1 := ⟨k - 1, by omega⟩
      obtain ⟨a0, a1, a2, a3⟩ := hq j (by omega)
      obtain ⟨b0, b1, b2, b3⟩ := hq (j + 1) hlt
      clear hq
      unfold slv' at a0 a1 b0 b1
      have HI := Lib.hid HD.out.1
      have HLs := HD.out.2
      clear HD
      have hwj : IntKind.i64.wrap (j : Int) = j := by rw [IntKind.wrap_i64]; omega
      have hc2 : (0 : Int) ≤ (j : Int) + 1 := by omega
      have hc3 : j < es.length := by omega
      go_wp2_with fail
      go_region_law (first
        | (go_simp; go_at_call 69; rw [← HE.out, ← HE.out]; refine (less_any es[j] es[j + 1] _ ((HR.out _ (List.getElem_mem _)).new HI.out.drew) ((HR.out _ (List.getElem_mem _)).new HI.out.drew)).mono ?_; rintro e w5 ⟨rfl, k5⟩)
        | (simp only [hwj, hc2, hc3]; go_simp))
      all_goals
        have k6 : Hid (Chg No w w5) := HI.out.drew.tr k5
        cases hb : lessE es[j].ent es[j + 1].ent with
        | false =>
          have HQ : Hid (sortedB (es.map En.ent) = false) := sortedB_no _ j (by simpa using hlt) (by simpa using hb)
          go_wp2_with fail
          go_ret
          exact ⟨by rw [HQ.out]; rfl, k6.out⟩
        | true =>
          go_wp2_with fail
          go_roundw
          · exact ⟨j + 1 + 1, by omega, by omega, by push_cast; rfl, k6.out, fun i hi hk => if e : i = j then by subst e; exact hb else HLs i (by omega) hk⟩
          · simp [intOf]; omega
    · have HQ : Hid (sortedB (es.map En.ent) = true) := (sortedB_iff _).2 fun i hi => by
        have := HD.out.2 i (by simp at hi; omega) (by simpa using hi)
        simpa [LTE] using this
      go_wp2_with fail
      go_ret
      exact ⟨by rw [HQ.out]; rfl, HD.out.1⟩
end Go.Proofs.Ytaoenbjfkahdjaa
namespace Go.Proofs.Ytaoenbjfkahdjaa
open Go.RowKit
set_option linter.unusedVariables false
set_option maxRecDepth 100000

theorem less_cases (a b : Ent) : lessE a b = if a.key = b.key then decide (b.seq < a.seq) else Op.bytesLess a.key b.key := by
  rw [cb_less]
  by_cases h : a.key = b.key
  · rw [if_pos h]
    unfold lessE ordE
    rw [h, cb_refl, if_pos rfl]
    by_cases h1 : b.seq < a.seq
    · rw [if_pos h1]; simp [h1]
    · rw [if_neg h1]; by_cases h2 : a.seq < b.seq
      · rw [if_pos h2]; simp [h1]
      · rw [if_neg h2]; simp [h1]
  · rw [if_neg h]
    unfold lessE ordE
    rw [if_neg (fun e => h (cb_eq e))]
set_option maxHeartbeats 1000000 in
theorem rless_any (a b : En) (w : World) (h : EnR w a) (k : EnR w b) :
    Calls Try.prog 88 #[enA a, enA b] w fun e w' => e = .returned (.bool (lessE a.ent b.ent)) ∧ Chg No w w' := by
  have HQ : Hid (lessE a.ent b.ent = if a.key.2.2 = b.key.2.2 then decide (b.seq < a.seq) else Op.bytesLess a.key.2.2 b.key.2.2) := less_cases _ _
  unfold enA
  have k0 : Chg No w ((w.alloc (.cells #[.slice a.key.1 a.key.2.2.length a.key.2.1, .slice a.value.1 a.value.2.2.length a.value.2.1, .int .i64 a.seq, .bool a.dead] 34)).alloc (.cells #[.slice b.key.1 b.key.2.2.length b.key.2.1, .slice b.value.1 b.value.2.2.length b.value.2.1, .int .i64 b.seq, .bool b.dead] 34)) := ((Chg.refl No w).alloc _).alloc _
  have s1 := (h.1.new k0).str (P := Try.prog) 32 9 5 Try.underlying32 Try.underlying5 Try.underlying9 a.key.2.1
  have s2 := (k.1.new k0).str (P := Try.prog) 32 9 5 Try.underlying32 Try.underlying5 Try.underlying9 b.key.2.1
  clear h k
  go_enter Try.func88, Try.ntmps88
  go_wp2_with fail
  · go_ret
    have hn : ¬ a.key.2.2 = b.key.2.2 := by first | assumption | simp_all
    exact ⟨by rw [HQ.out, if_neg hn]; rfl, k0⟩
  · go_ret
    have hn : a.key.2.2 = b.key.2.2 := by first | assumption | simp_all
    exact ⟨by rw [HQ.out, if_pos hn]; rfl, k0⟩
set_option maxHeartbeats 1000000 in
theorem rsorted_any (A : Option Addr) (c : Nat) (es : List En) (w : World) (h : RdV w A (es.flatMap enV)) (hr : EnsR w es) (hc : es.length ≤ c) (hm : c ≤ maxLen) :
    Calls Try.prog 73 #[.slice A es.length c] w fun e w' => e = .returned (.bool (sortedB (es.map En.ent))) ∧ Chg No w w' := by
  have HL := Lib.hid h
  have HR := Lib.hid hr
  have HE : Hid (∀ e : En, enA e = .agg #[.slice e.key.1 e.key.2.2.length e.key.2.1, .slice e.value.1 e.value.2.2.length e.value.2.1, .int .i64 e.seq, .bool e.dead]) := fun _ => rfl
  unfold maxLen at hm
  clear h hr
  go_enter Try.func73, Try.ntmps73
  go_wp2_with fail
  go_loopw [3] (fun i wr => ∃ k : Nat, 1 ≤ k ∧ (k ≤ es.length ∨ k = 1) ∧ i = .int .i64 k ∧ Hid (Chg No w wr ∧ ∀ i (hi : i + 1 < k) (hk : i + 1 < es.length), lessE (es[i]'(by omega)).ent es[i + 1].ent = true)) (fun i _ => es.length - (intOf i).toNat)
  case atStart => exact ⟨1, by omega, by omega, rfl, Chg.refl _ _, fun i hi => by omega⟩
  case round =>
    obtain ⟨k, hk1, hk2, rfl, HD⟩ := hrel
    by_cases hlt : k < es.length
    · obtain ⟨b, o, rfl, hq⟩ := ents_at (RdV.new HL.out HD.out.1) (by omega)
      obtain ⟨j, rfl⟩ : ∃ j, k = j + 1 := ⟨k - 1, by omega⟩
      obtain ⟨a0, a1, a2, a3⟩ := hq j (by omega)
      obtain ⟨b0, b1, b2, b3⟩ := hq (j + 1) hlt
      clear hq
      unfold slv' at a0 a1 b0 b1
      have HI := Lib.hid HD.out.1
      have HLs := HD.out.2
      clear HD
      have hwj : IntKind.i64.wrap (j : Int) = j := by rw [IntKind.wrap_i64]; omega
      have hc2 : (0 : Int) ≤ (j : Int) + 1 := by omega
      have hc3 : j < es.length := by omega
      go_wp2_with fail
      go_region_law (first
        | (go_simp; go_at_call 88; rw [← HE.out, ← HE.out]; refine (rless_any es[j] es[j + 1] _ ((HR.out _ (List.getElem_mem _)).new HI.out.drew) ((HR.out _ (List.getElem_mem _)).new HI.out.drew)).mono ?_; rintro e w5 ⟨rfl, k5⟩)
        | (simp only [hwj, hc2, hc3]; go_simp))
      all_goals
        have k6 : Hid (Chg No w w5) := HI.out.drew.tr k5
        cases hb : lessE es[j].ent es[j + 1].ent with
        | false =>
          have HQ : Hid (sortedB (es.map En.ent) = false) := sortedB_no _ j (by simpa using hlt) (by simpa using hb)
          go_wp2_with fail
          go_ret
          exact ⟨by rw [HQ.out]; rfl, k6.out⟩
        | true =>
          go_wp2_with fail
          go_roundw
          · exact ⟨j + 1 + 1, by omega, by omega, by push_cast; rfl, k6.out, fun i hi hk => if e : i = j then by subst e; exact hb else HLs i (by omega) hk⟩
          · simp [intOf]; omega
    · have HQ : Hid (sortedB (es.map En.ent) = true) := (sortedB_iff _).2 fun i hi => by
        have := HD.out.2 i (by simp at hi; omega) (by simpa using hi)
        simpa [LTE] using this
      go_wp2_with fail
      go_ret
      exact ⟨by rw [HQ.out]; rfl, HD.out.1⟩
end Go.Proofs.Ytaoenbjfkahdjaa
namespace Go.Proofs.Ytaoenbjfkahdjaa
open Go.RowKit
set_option linter.unusedVariables false
set_option maxRecDepth 100000

/-- A node: its block, its links' block, its entry, how many links it has, on how many levels it is linked. -/
structure Nd where
  a : Nat
  r : Nat
  e : En
  h : Nat
  v : Nat
/-- The block of the first node of a level, or what stands behind. -/
def nxt (t : Nat → Option Nat) (ns : List Nd) (i : Nat) : Option Nat := match ns.find? (fun n => decide (i < n.v)) with | some n => some n.a | none => t i
def ptrN (o : Option Nat) : Value := .pointer (o.map fun b => ⟨b, 0, none⟩)
/-- A row of links: h of them, v of them laid. -/
def rowN (f : Nat → Option Nat) (h v : Nat) : Array Value := ((List.range h).map fun j => if j < v then ptrN (f j) else ptrN none).toArray
def nodeC (n : Nd) : Array Value := #[.slice (some ⟨n.r, 0, none⟩) n.h n.h, slv' n.e.key, slv' n.e.value, .int .i64 n.e.seq, .bool n.e.dead]
def NodeP (n : Nd) (f : Nat → Option Nat) : SP := Pt n.a 97 (nodeC n) * Pt n.r 94 (rowN f n.h n.v)
def NodesG (t : Nat → Option Nat) : List Nd → SP
  | [] => Emp
  | n :: ns => NodeP n (nxt t ns) * NodesG t ns
def noT : Nat → Option Nat := fun _ => none
section
variable {t t' : Nat → Option Nat} {n m : Nd} {ns p s : List Nd} {i j h v : Nat}
theorem nxt_nil : nxt t [] = t := rfl
theorem nxt_cons (t : Nat → Option Nat) (n : Nd) (ns : List Nd) (i : Nat) : nxt t (n :: ns) i = if i < n.v then some n.a else nxt t ns i := by
  unfold nxt
  rw [List.find?_cons]
  by_cases h : i < n.v
  · simp [h]
  · simp [h]
theorem nxt_app (t : Nat → Option Nat) (s : List Nd) : ∀ p : List Nd, nxt t (p ++ s) = nxt (nxt t s) p
  | [] => rfl
  | n :: p => by
    funext i
    rw [List.cons_append, nxt_cons, nxt_cons, nxt_app t s p]
theorem nxt_low (h : ∀ n ∈ ns, n.v ≤ i) : nxt t ns i = t i := by
  unfold nxt
  rw [List.find?_eq_none.2 (fun n hn => by have := h n hn; simp; omega)]
/-- What a level's next one is. -/
theorem nxt_cases (ns : List Nd) (i : Nat) : (nxt noT ns i = none ∧ ∀ n ∈ ns, n.v ≤ i) ∨ ∃ p m s, ns = p ++ m :: s ∧ nxt noT ns i = some m.a ∧ i < m.v ∧ ∀ n ∈ p, n.v ≤ i := by
  induction ns with
  | nil => exact .inl ⟨rfl, by simp⟩
  | cons n ns ih =>
    by_cases h : i < n.v
    · exact .inr ⟨[], n, ns, rfl, by rw [nxt_cons, if_pos h], h, by simp⟩
    · rcases ih with ⟨h1, h2⟩ | ⟨p, m, s, rfl, h2, h3, h4⟩
      · exact .inl ⟨by rw [nxt_cons, if_neg h, h1], fun x hx => (List.mem_cons.1 hx).elim (fun e => by subst e; omega) (h2 x)⟩
      · exact .inr ⟨n :: p, m, s, rfl, by rw [nxt_cons, if_neg h]; exact h2, h3, fun x hx => (List.mem_cons.1 hx).elim (fun e => by subst e; omega) (h4 x)⟩
theorem rowN_congr {f g : Nat → Option Nat} (hfg : ∀ j, j < h → j < v → f j = g j) : rowN f h v = rowN g h v := by
  unfold rowN
  congr 1
  apply List.map_congr_left
  intro j hj
  have hj := List.mem_range.1 hj
  by_cases hv : j < v
  · rw [if_pos hv, if_pos hv, hfg j hj hv]
  · rw [if_neg hv, if_neg hv]
theorem rowN_get (f : Nat → Option Nat) (hj : j < h) : (rowN f h v)[j]? = some (if j < v then ptrN (f j) else ptrN none) := by
  unfold rowN; simp [hj]
theorem rowN_size (f : Nat → Option Nat) (h v : Nat) : (rowN f h v).size = h := by unfold rowN; simp
theorem nodes_app (t : Nat → Option Nat) (s : List Nd) : ∀ p : List Nd, NodesG t (p ++ s) = NodesG (nxt t s) p * NodesG t s
  | [] => (emp_star _).symm
  | n :: p => by
    show NodeP n (nxt t (p ++ s)) * NodesG t (p ++ s) = NodeP n (nxt (nxt t s) p) * NodesG (nxt t s) p * NodesG t s
    rw [nxt_app, nodes_app t s p, star_assoc]
/-- What lies on low levels alone does not see what stands behind on high ones. -/
theorem nodes_low : ∀ {ns : List Nd}, (∀ n ∈ ns, n.v ≤ i) → (∀ j, j < i → t j = t' j) → NodesG t ns = NodesG t' ns
  | [], _, _ => rfl
  | n :: ns, h, k => by
    show NodeP n (nxt t ns) * NodesG t ns = NodeP n (nxt t' ns) * NodesG t' ns
    rw [nodes_low (fun x hx => h x (List.mem_cons_of_mem _ hx)) k]
    have hn := h n List.mem_cons_self
    have e : rowN (nxt t ns) n.h n.v = rowN (nxt t' ns) n.h n.v := rowN_congr fun j hj hv => by
      unfold nxt
      cases ns.find? (fun n => decide (j < n.v)) with
      | some _ => rfl
      | none => exact k j (by omega)
    unfold NodeP
    rw [e]
end
/-- What is said of a table's nodes. -/
structure NOk (ns : List Nd) : Prop where
  full : ∀ n ∈ ns, n.v = n.h ∧ 1 ≤ n.h ∧ n.h ≤ 8
  sort : ns.Pairwise fun a b => LTE a.e.ent b.e.ent
def byt (l : List Ent) : Nat := l.foldr (fun e s => e.key.length + e.value.length + s) 0
def slcs (ns : List Nd) : List Slc := ns.flatMap fun n => [n.e.key, n.e.value]
/-- The table: its block, the block of its first links, its nodes, and what its counts say. -/
def SkipC (b hr : Nat) (ns : List Nd) (cnt by' : Int) : SP :=
  Pt b 90 #[.slice (some ⟨hr, 0, none⟩) 8 8, .int .i64 cnt, .int .i64 by'] * (Pt hr 94 (rowN (nxt noT ns) 8 8) * (NodesG noT ns * RoL (slcs ns)))

/-- What is read of a table, at a world. -/
structure View (w : World) (b hr : Nat) (ns : List Nd) : Prop where
  head : w.cell? ⟨b, 0, none⟩ = some (.slice (some ⟨hr, 0, none⟩) 8 8)
  links : ∀ i, i < 8 → w.cell? ⟨hr, i, none⟩ = some (ptrN (nxt noT ns i))
  node : ∀ p n s, ns = p ++ n :: s → w.cell? ⟨n.a, 0, none⟩ = some (.slice (some ⟨n.r, 0, none⟩) n.h n.h) ∧ w.cell? ⟨n.a, 1, none⟩ = some (slv' n.e.key) ∧ w.cell? ⟨n.a, 2, none⟩ = some (slv' n.e.value) ∧ w.cell? ⟨n.a, 3, none⟩ = some (.int .i64 n.e.seq) ∧ w.cell? ⟨n.a, 4, none⟩ = some (.bool n.e.dead)
    ∧ (∀ i, i < n.h → w.cell? ⟨n.r, i, none⟩ = some (ptrN (nxt noT s i))) ∧ EnR w n.e
  nodup : (ns.map Nd.a).Nodup
section
variable {w0 w w' : World} {F : SP} {b hr : Nat} {ns p s : List Nd} {n : Nd} {c y : Int} {t : Nat → Option Nat}
theorem View.new (h : View w b hr ns) (k : Chg No w w') : View w' b hr ns :=
  ⟨k.cell h.head id, fun i hi => k.cell (h.links i hi) id, fun p n s e => by
    obtain ⟨h1, h2, h3, h4, h5, h6, h7⟩ := h.node p n s e
    exact ⟨k.cell h1 id, k.cell h2 id, k.cell h3 id, k.cell h4 id, k.cell h5 id, fun i hi => k.cell (h6 i hi) id, h7.new k⟩, h.nodup⟩
/-- One node, apart from the others. -/
theorem node_out (t : Nat → Option Nat) (p : List Nd) (n : Nd) (s : List Nd) (F : SP) : NodesG t (p ++ n :: s) * F = Pt n.a 97 (nodeC n) * (Pt n.r 94 (rowN (nxt t s) n.h n.v) * (NodesG (nxt t (n :: s)) p * (NodesG t s * F))) := by
  rw [nodes_app]
  show NodesG (nxt t (n :: s)) p * (Pt n.a _ (nodeC n) * Pt n.r _ (rowN (nxt t s) n.h n.v) * NodesG t s) * F = _
  ac_rfl
theorem nodes_dup (h : Sat w0 (NodesG t ns * F) w) : (ns.map Nd.a).Nodup := by
  induction ns generalizing F with
  | nil => simp
  | cons n ns ih =>
    have h1 : Sat w0 (Pt n.a 97 (nodeC n) * (NodesG t ns * (Pt n.r 94 (rowN (nxt t ns) n.h n.v) * F))) w := h.of (by
      show Pt n.a _ (nodeC n) * Pt n.r _ (rowN (nxt t ns) n.h n.v) * NodesG t ns * F = _
      ac_rfl)
    rw [List.map_cons, List.nodup_cons]
    refine ⟨fun hm => ?_, ih h1.right⟩
    obtain ⟨m, hm, e⟩ := List.mem_map.1 hm
    obtain ⟨p, s, rfl⟩ := List.append_of_mem hm
    have h2 : Sat w0 (Ow n.a _ * (Ow m.a _ * _)) w := h1.of (by rw [node_out]; rfl)
    exact h2.ne e.symm
theorem Sat.view (h : Sat w0 (SkipC b hr ns c y * F) w) (hok : NOk ns) : View w b hr ns := by
  have h1 : Sat w0 (Pt b 90 #[.slice (some ⟨hr, 0, none⟩) 8 8, .int .i64 c, .int .i64 y] * (Pt hr 94 (rowN (nxt noT ns) 8 8) * (NodesG noT ns * (RoL (slcs ns) * F)))) w := h.of (by unfold SkipC; ac_rfl)
  refine ⟨h1.cell 0, fun i hi => ?_, fun p n s e => ?_, nodes_dup (h1.up3)⟩
  · rw [h1.up2.cell i, rowN_get _ hi, if_pos hi]
  · subst e
    have h2 := h1.up3.of (node_out noT p n s _)
    obtain ⟨e1, e2, e3⟩ := hok.full n (by simp)
    refine ⟨h2.cell 0, h2.cell 1, h2.cell 2, h2.cell 3, h2.cell 4, fun i hi => ?_, ?_⟩
    · rw [h2.up2.cell i, rowN_get _ hi, if_pos (by omega)]
    · have h3 := h1.up4
      exact ⟨h3.rol (r := n.e.key) (by unfold slcs; simp), h3.rol (r := n.e.value) (by unfold slcs; simp)⟩
end
end Go.Proofs.Ytaoenbjfkahdjaa
namespace Go.Proofs.Ytaoenbjfkahdjaa
open Go.RowKit
set_option linter.unusedVariables false
set_option maxRecDepth 100000

def ahead (e : Ent) (ns : List Nd) : List Nd := ns.takeWhile fun n => lessE n.e.ent e
/-- The last block ahead that has a level. -/
def lastAt (b : Nat) : List Nd → Nat → Nat
  | [], _ => b
  | n :: ns, i => if i < n.v then lastAt n.a ns i else lastAt b ns i
theorem lastAt_app (s : List Nd) (i : Nat) : ∀ (p : List Nd) (b : Nat), lastAt b (p ++ s) i = lastAt (lastAt b p i) s i
  | [], b => rfl
  | n :: p, b => by
    show (if i < n.v then lastAt n.a (p ++ s) i else lastAt b (p ++ s) i) = lastAt (if i < n.v then lastAt n.a p i else lastAt b p i) s i
    by_cases h : i < n.v
    · rw [if_pos h, if_pos h]; exact lastAt_app s i p n.a
    · rw [if_neg h, if_neg h]; exact lastAt_app s i p b
theorem lastAt_low {i : Nat} : ∀ {s : List Nd} {b : Nat}, (∀ n ∈ s, n.v ≤ i) → lastAt b s i = b
  | [], _, _ => rfl
  | n :: s, b, h => by
    unfold lastAt
    rw [if_neg (by have := h n List.mem_cons_self; omega)]
    exact lastAt_low fun x hx => h x (List.mem_cons_of_mem _ hx)
theorem ahead_app {e : Ent} {p s : List Nd} (h : ∀ n ∈ p, LTE n.e.ent e) : ahead e (p ++ s) = p ++ ahead e s := by
  unfold ahead
  exact List.takeWhile_append_of_pos fun n hn => h n hn
theorem mem_ahead {e : Ent} {n : Nd} : ∀ {s : List Nd}, n ∈ ahead e s → n ∈ s ∧ LTE n.e.ent e
  | [], h => by simp [ahead] at h
  | m :: s, h => by
    unfold ahead at h
    rw [List.takeWhile_cons] at h
    split at h
    · rename_i hl
      rcases List.mem_cons.1 h with h | h
      · subst h; exact ⟨List.mem_cons_self, hl⟩
      · have := mem_ahead (s := s) h; exact ⟨List.mem_cons_of_mem _ this.1, this.2⟩
    · cases h
/-- A place in the table: the nodes up to it, those behind it, its block, its links. -/
structure Plc (w : World) (b : Nat) (ns : List Nd) (e : Ent) (k : Nat) (p s : List Nd) (A R h : Nat) : Prop where
  eq : ns = p ++ s
  low : ∀ n ∈ p, LTE n.e.ent e
  done : ∀ n ∈ s, LTE n.e.ent e → n.v ≤ k
  hk : k ≤ h
  head : w.cell? ⟨A, 0, none⟩ = some (.slice (some ⟨R, 0, none⟩) h h)
  links : ∀ i, i < h → w.cell? ⟨R, i, none⟩ = some (ptrN (nxt noT s i))
  last : ∀ j, j < h → lastAt b p j = A
section
variable {w w' : World} {b hr k A R h : Nat} {ns p s : List Nd} {e : Ent}
theorem Plc.new (x : Plc w b ns e k p s A R h) (c : Chg No w w') : Plc w' b ns e k p s A R h := ⟨x.eq, x.low, x.done, x.hk, c.cell x.head id, fun i hi => c.cell (x.links i hi) id, x.last⟩
theorem View.plc (v : View w b hr ns) (hok : NOk ns) (e : Ent) : Plc w b ns e 8 [] ns b hr 8 :=
  ⟨rfl, by simp, fun n hn _ => by have := hok.full n hn; omega, Nat.le_refl _, v.head, v.links, fun _ _ => rfl⟩
/-- On to a node that stands ahead. -/
theorem Plc.step (x : Plc w b ns e (k + 1) p s A R h) (v : View w b hr ns) (hok : NOk ns) {q t : List Nd} {m : Nd} (hs : s = q ++ m :: t) (hm : k < m.v) (hl : LTE m.e.ent e) :
    Plc w b ns e (k + 1) (p ++ (q ++ [m])) t m.a m.r m.h := by
  have he := x.eq
  subst hs
  have hf := hok.full m (by rw [he]; simp)
  obtain ⟨h1, _, _, _, _, h6, _⟩ := v.node (p ++ q) m t (by rw [he]; simp)
  refine ⟨by rw [he]; simp, fun n hn => ?_, fun n hn => x.done n (by simp [hn]), by omega, h1, h6, fun j hj => ?_⟩
  · rcases List.mem_append.1 hn with hn | hn
    · exact x.low n hn
    · rcases List.mem_append.1 hn with hn | hn
      · have hsort := hok.sort
        rw [he, List.pairwise_append] at hsort
        have h2 := hsort.2.1
        rw [List.pairwise_append] at h2
        exact lte_trans (h2.2.2 n hn m List.mem_cons_self) hl
      · simp at hn; subst hn; exact hl
  · rw [lastAt_app, lastAt_app]
    show (if j < m.v then _ else _) = _
    rw [if_pos (by omega)]
    rfl
/-- No node on this level stands ahead any more: one level down. -/
theorem Plc.down (x : Plc w b ns e (k + 1) p s A R h) (hd : ∀ n ∈ s, LTE n.e.ent e → n.v ≤ k) : Plc w b ns e k p s A R h := ⟨x.eq, x.low, hd, by have := x.hk; omega, x.head, x.links, x.last⟩
theorem Plc.here (x : Plc w b ns e (k + 1) p s A R h) (hd : ∀ n ∈ s, LTE n.e.ent e → n.v ≤ k) : lastAt b (ahead e ns) k = A := by
  have he := x.eq
  rw [he, ahead_app x.low, lastAt_app, x.last k (by have := x.hk; omega)]
  exact lastAt_low fun n hn => hd n (mem_ahead hn).1 (mem_ahead hn).2
theorem done_none (x : Plc w b ns e (k + 1) p s A R h) (hn : ∀ n ∈ s, n.v ≤ k) : ∀ n ∈ s, LTE n.e.ent e → n.v ≤ k := fun n h _ => hn n h
theorem done_some (x : Plc w b ns e (k + 1) p s A R h) (hok : NOk ns) {q t : List Nd} {m : Nd} (hs : s = q ++ m :: t) (hq : ∀ n ∈ q, n.v ≤ k) (hl : ¬ LTE m.e.ent e) : ∀ n ∈ s, LTE n.e.ent e → n.v ≤ k := by
  intro n hn hl2
  have he := x.eq
  subst hs
  rcases List.mem_append.1 hn with hn | hn
  · exact hq n hn
  · have hsort := hok.sort
    rw [he, List.pairwise_append] at hsort
    have h2 := hsort.2.1
    rw [List.pairwise_append, List.pairwise_cons] at h2
    rcases List.mem_cons.1 hn with e | hn
    · subst e; exact absurd hl2 hl
    · exact absurd (lte_trans (h2.2.1.1 n hn) hl2) hl
end
/-- How many nodes there are from a block on. -/
def rank (ns : List Nd) (v : Value) : Nat := match v with | .pointer (some A) => (ns.dropWhile fun n => decide (n.a ≠ A.block)).length | _ => 0
theorem rank_at {ns p s : List Nd} {m : Nd} (hd : (ns.map Nd.a).Nodup) (h : ns = p ++ m :: s) : rank ns (.pointer (some ⟨m.a, 0, none⟩)) = s.length + 1 := by
  subst h
  show ((p ++ m :: s).dropWhile fun n => decide (n.a ≠ m.a)).length = _
  have hp : ∀ n ∈ p, decide (n.a ≠ m.a) = true := fun n hn => by
    rw [List.map_append, List.nodup_append] at hd
    have := hd.2.2 n.a (List.mem_map_of_mem hn) m.a (by simp)
    simpa using this
  rw [List.dropWhile_append_of_pos hp, List.dropWhile_cons]
  simp
theorem rank_nxt {ns p s : List Nd} {i : Nat} (hd : (ns.map Nd.a).Nodup) (h : ns = p ++ s) : rank ns (ptrN (nxt noT s i)) ≤ s.length := by
  rcases nxt_cases s i with ⟨h1, _⟩ | ⟨q, m, t, hs, h2, _, _⟩
  · rw [h1]; exact Nat.zero_le _
  · rw [h2]
    have := rank_at (p := p ++ q) (s := t) (m := m) hd (by rw [h, hs]; simp)
    show rank ns (.pointer (some ⟨m.a, 0, none⟩)) ≤ _
    rw [this, hs]; simp
def outC (b : Nat) (ps : List Nd) (k : Nat) : Array Value := ((List.range 8).map fun j => if k ≤ j then ptrN (some (lastAt b ps j)) else ptrN none).toArray
theorem outC_set (b : Nat) (ps : List Nd) (k : Nat) (hk : k < 8) : (outC b ps (k + 1)).setIfInBounds k (.pointer (some ⟨lastAt b ps k, 0, none⟩)) = outC b ps k := by
  apply Array.ext'
  apply List.ext_getElem?
  intro j
  unfold outC
  simp only [List.setIfInBounds_toArray, List.getElem?_set, List.getElem?_map, List.length_map, List.length_range]
  by_cases hj : j < 8
  · rw [List.getElem?_range hj]
    by_cases e : k = j
    · subst e; simp [hk, ptrN]
    · have : (k + 1 ≤ j) = (k ≤ j) := by apply propext; omega
      simp [e, this]
  · simp [hj, show ¬ k = j by omega]
end Go.Proofs.Ytaoenbjfkahdjaa
namespace Go.Proofs.Ytaoenbjfkahdjaa
open Go.RowKit
set_option linter.unusedVariables false
set_option maxRecDepth 100000

abbrev enC (e : En) : Array Value := #[.slice e.key.1 e.key.2.2.length e.key.2.1, .slice e.value.1 e.value.2.2.length e.value.2.1, .int .i64 e.seq, .bool e.dead]
theorem outC_get (b : Nat) (ps : List Nd) (k : Nat) {j : Nat} (hj : j < 8) : (outC b ps k)[j]? = some (if k ≤ j then ptrN (some (lastAt b ps j)) else ptrN none) := by unfold outC; simp [hj]
/-- What holds in its rounds. -/
structure Bst (w : World) (b : Nat) (ns : List Nd) (e : En) (E B O V : Nat) (k : Nat) (p s : List Nd) (A R h : Nat) (wr : World) : Prop where
  plc : Plc w b ns e.ent k p s A R h
  k8 : k ≤ 8
  sat : Sat w (Pt O 92 (outC b (ahead e.ent ns) V) * (Pt B 92 (outC b [] 8) * (Pt E 34 (enC e) * Emp))) wr
set_option maxHeartbeats 2000000 in
theorem before_any (b hr : Nat) (ns : List Nd) (e : En) (w : World) (hv : View w b hr ns) (hok : NOk ns) (he : EnR w e) :
    Calls Try.prog 46 #[.pointer (some ⟨b, 0, none⟩), enA e] w fun x w' => x = .returned (.agg (outC b (ahead e.ent ns) 0)) ∧ Chg No w w' := by
  have HV := Lib.hid hv
  have HE := Lib.hid he
  have HO := Lib.hid hok
  have HEA : Hid (∀ e : En, enA e = .agg #[.slice e.key.1 e.key.2.2.length e.key.2.1, .slice e.value.1 e.value.2.2.length e.value.2.1, .int .i64 e.seq, .bool e.dead]) := fun _ => rfl
  rw [HEA.out]
  clear hv he hok
  go_enter Try.func46, Try.ntmps46
  go_wp2_with fail
  have s1 := (Sat.start w).allocAt (b := w.heap.size) 34 (enC e) rfl
  have s2 := s1.allocAt (b := w.heap.size + 1) 92 (outC b [] 8) (by simp)
  have s3 := s2.allocAt (b := w.heap.size + 1 + 1) 92 (outC b (ahead e.ent ns) 8) (by simp)
  obtain ⟨W, hW⟩ : ∃ W, W = ((w.alloc (.cells (enC e) 34)).alloc (.cells (outC b [] 8) 92)).alloc (.cells (outC b (ahead e.ent ns) 8) 92) := ⟨_, rfl⟩
  rw [← hW] at s3
  have e8 : ∀ ps, outC b ps 8 = #[.pointer none, .pointer none, .pointer none, .pointer none, .pointer none, .pointer none, .pointer none, .pointer none] := fun _ => rfl
  rw [e8, e8] at hW
  rw [← hW]
  generalize w.heap.size = E at *
  obtain ⟨O, hO⟩ : ∃ O, O = E + 1 + 1 := ⟨_, rfl⟩
  obtain ⟨B, hB⟩ : ∃ B, B = E + 1 := ⟨_, rfl⟩
  rw [← hO, ← hB] at s3
  rw [← hO, ← hB]
  have HS := Lib.hid s3
  clear s1 s2 s3 hW e8 hO hB
  go_loopw [6, 7] (fun at' i wr => ∃ (k A R h : Nat) (p s : List Nd), i = .int .i64 ((k : Int) - 1) ∧ at' = .pointer (some ⟨A, 0, none⟩) ∧ k ≤ 8 ∧ Hid (Bst w b ns e E B O k k p s A R h wr)) (fun _ i _ => (intOf i + 1).toNat)
  case atStart => exact ⟨8, b, hr, 8, [], ns, rfl, rfl, by omega, HV.out.plc HO.out _, by omega, HS.out⟩
  case round =>
    obtain ⟨k, A, R, h, p, s, rfl, rfl, hk8, HD⟩ := hrel
    rcases k with _ | q
    · have eO : ∀ ps, outC b ps 0 = #[.pointer (some ⟨lastAt b ps 0, 0, none⟩), .pointer (some ⟨lastAt b ps 1, 0, none⟩), .pointer (some ⟨lastAt b ps 2, 0, none⟩), .pointer (some ⟨lastAt b ps 3, 0, none⟩), .pointer (some ⟨lastAt b ps 4, 0, none⟩), .pointer (some ⟨lastAt b ps 5, 0, none⟩), .pointer (some ⟨lastAt b ps 6, 0, none⟩), .pointer (some ⟨lastAt b ps 7, 0, none⟩)] := fun _ => rfl
      have hs := HD.out.sat
      have e8 : outC b [] 8 = #[.pointer none, .pointer none, .pointer none, .pointer none, .pointer none, .pointer none, .pointer none, .pointer none] := rfl
      rw [eO, e8] at hs
      have c0 := hs.cell 0; have c1 := hs.cell 1; have c2 := hs.cell 2; have c3 := hs.cell 3; have c4 := hs.cell 4; have c5 := hs.cell 5; have c6 := hs.cell 6; have c7 := hs.cell 7
      have f0 := hs.up2.frozen 0; have f1 := hs.up2.frozen 1; have f2 := hs.up2.frozen 2; have f3 := hs.up2.frozen 3; have f4 := hs.up2.frozen 4; have f5 := hs.up2.frozen 5; have f6 := hs.up2.frozen 6; have f7 := hs.up2.frozen 7
      have d0 := hs.up2.cell 0; have d1 := hs.up2.cell 1; have d2 := hs.up2.cell 2; have d3 := hs.up2.cell 3; have d4 := hs.up2.cell 4; have d5 := hs.up2.cell 5; have d6 := hs.up2.cell 6; have d7 := hs.up2.cell 7
      have HQ : Hid (Value.agg (outC b (ahead e.ent ns) 0) = _) := congrArg Value.agg (eO _)
      have HS2 := Lib.hid hs
      clear hs eO e8
      have h9 := (((((((HS2.out.up2.set 0 (.pointer (some ⟨lastAt b (ahead e.ent ns) 0, 0, none⟩))).set 1 (.pointer (some ⟨lastAt b (ahead e.ent ns) 1, 0, none⟩))).set 2 (.pointer (some ⟨lastAt b (ahead e.ent ns) 2, 0, none⟩))).set 3 (.pointer (some ⟨lastAt b (ahead e.ent ns) 3, 0, none⟩))).set 4 (.pointer (some ⟨lastAt b (ahead e.ent ns) 4, 0, none⟩))).set 5 (.pointer (some ⟨lastAt b (ahead e.ent ns) 5, 0, none⟩))).set 6 (.pointer (some ⟨lastAt b (ahead e.ent ns) 6, 0, none⟩))).set 7 (.pointer (some ⟨lastAt b (ahead e.ent ns) 7, 0, none⟩))
      go_wp2_with fail
      clear c0 c1 c2 c3 c4 c5 c6 c7 f0 f1 f2 f3 f4 f5 f6 f7 d0 d1 d2 d3 d4 d5 d6 d7
      revert h9
      generalize World.setCell _ _ _ = W2
      intro h9
      refine bodyPost_ret (results_cell_row (p := 4) (by kernel_rfl) _ _ B 92 _ (0, 0) _ rfl h9.at Try.underlying92 rfl (by kernel_rfl)) rfl ?_
      exact ⟨by rw [HQ.out]; rfl, h9.chg⟩
    · have HI : Hid (((q + 1 : Nat) : Int) - 1 = q) := by unfold Hid; omega
      rw [HI.out]
      have hh := HD.out.plc.hk
      have q1 := (HD.out.plc.new HD.out.sat.chg).head
      have q2 := (HD.out.plc.new HD.out.sat.chg).links q (by omega)
      have HD0 := HD
      clear HD
      go_wp2_with fail
      clear hh q1 q2
      go_loopw [6, 8] (fun at' n wr => ∃ (A R h : Nat) (p s : List Nd), at' = .pointer (some ⟨A, 0, none⟩) ∧ n = ptrN (nxt noT s q) ∧ Hid (Bst w b ns e E B O (q + 1) (q + 1) p s A R h wr)) (fun _ n _ => rank ns n)
      case atStart => exact ⟨A, R, h, p, s, rfl, rfl, HD0.out⟩
      case round =>
        clear HD0
        obtain ⟨A1, R1, h1, p1, s1, rfl, rfl, HD⟩ := hrel
        have hq : q < 8 := by omega
        have wq : IntKind.i64.wrap ((q : Int) - 1) = (q : Int) - 1 := by rw [IntKind.wrap_i64]; omega
        rcases nxt_cases s1 q with ⟨e1, hlow⟩ | ⟨u, m, t, e2, e1, hm, hu⟩
        · have HX := Lib.hid (done_none HD.out.plc hlow)
          have e3 : ptrN (nxt noT s1 q) = .pointer none := by rw [e1]; rfl
          rw [e3]
          clear e1 e3 hlow
          have f1 := HD.out.sat.frozen q
          have f2 : wr.cell? ⟨O, q, none⟩ = some (.pointer none) := by rw [HD.out.sat.cell q, outC_get _ _ _ hq, if_neg (by omega)]; rfl
          go_wp2_with fail
          go_region
          go_wp2_with fail
          go_roundw
          · have hs := HD.out.sat.drew.set q (.pointer (some ⟨A1, 0, none⟩))
            rw [← HD.out.plc.here HX.out, outC_set _ _ _ hq] at hs
            rw [HD.out.plc.here HX.out] at hs
            exact ⟨q, A1, R1, h1, p1, s1, rfl, rfl, by omega, HD.out.plc.down HX.out, by omega, hs⟩
          · simp [intOf] <;> omega
        · have e3 : ptrN (nxt noT s1 q) = .pointer (some ⟨m.a, 0, none⟩) := by rw [e1]; rfl
          rw [e3]
          have hsp := HD.out.plc.eq
          have hv2 := HV.out.new HD.out.sat.chg
          obtain ⟨n0, n1, n2, n3, n4, n5, n6⟩ := hv2.node (p1 ++ u) m t (by rw [hsp, e2]; simp)
          unfold slv' at n1 n2
          have HR2 := Lib.hid hv2.nodup
          have HN := Lib.hid n6
          have c0 := HD.out.sat.right.right.cell 0; have c1 := HD.out.sat.right.right.cell 1; have c2 := HD.out.sat.right.right.cell 2; have c3 := HD.out.sat.right.right.cell 3
          have HU := Lib.hid hu
          have E2 := Lib.hid e2
          have E1 := Lib.hid hsp
          have HM := Lib.hid hm
          clear hu e2 hsp hm e1 e3 hv2 n5 n6 n0
          have HC := Lib.hid HD.out.sat.chg
          go_wp2_with fail
          go_region_law (go_simp; go_at_call 69; refine (less_any m.e e _ (HN.out.new (Chg.refl No wr).drew) (HE.out.new HC.out.drew)).mono ?_; rintro x w5 ⟨rfl, k5⟩)
          all_goals
            cases hb : lessE m.e.ent e.ent with
            | false =>
              have HX := Lib.hid (done_some HD.out.plc HO.out E2.out HU.out (by unfold LTE; rw [hb]; simp))
              have hs0 := HD.out.sat.drew.new k5
              have f1 := hs0.frozen q
              have f2 : w5.cell? ⟨O, q, none⟩ = some (.pointer none) := by rw [hs0.cell q, outC_get _ _ _ hq, if_neg (by omega)]; rfl
              have HS0 := Lib.hid hs0
              clear hs0
              go_wp2_with fail
              go_roundw
              · have hs := HS0.out.set q (.pointer (some ⟨A1, 0, none⟩))
                rw [← HD.out.plc.here HX.out, outC_set _ _ _ hq] at hs
                rw [HD.out.plc.here HX.out] at hs
                exact ⟨q, A1, R1, h1, p1, s1, rfl, rfl, by omega, HD.out.plc.down HX.out, by omega, hs⟩
              · simp [intOf] <;> omega
            | true =>
              have HP := Lib.hid (HD.out.plc.step HV.out HO.out E2.out HM.out hb)
              have HS0 := Lib.hid (HD.out.sat.drew.new k5)
              have hf := HO.out.full m (by rw [E1.out, E2.out]; simp)
              have hmq := HM.out
              have q3 := (HP.out.new HS0.out.chg).head
              have q4 := (HP.out.new HS0.out.chg).links q (by omega)
              go_wp2_with fail
              go_roundw
              · exact ⟨m.a, m.r, m.h, _, t, rfl, rfl, HP.out, HD.out.k8, HS0.out⟩
              · have r1 := rank_at (p := p1 ++ u) (s := t) (m := m) HR2.out (by rw [E1.out, E2.out]; simp)
                have r2 := rank_nxt (p := p1 ++ (u ++ [m])) (s := t) (i := q) HR2.out (by rw [E1.out, E2.out]; simp)
                simp; omega
end Go.Proofs.Ytaoenbjfkahdjaa
namespace Go.Proofs.Ytaoenbjfkahdjaa
open Go.RowKit
set_option linter.unusedVariables false
set_option maxRecDepth 100000

section
variable {w0 w w' : World} {F : SP}
/-- slices.Clone, with what else is held. -/
theorem cloneS (S : Option Addr) (n : Nat) (l : List UInt8) (h : Sat w0 F w) (hr : Rd w S l) (hl : l.length ≤ 140737488355328) :
    Calls Try.prog 87 #[.slice S l.length n] w fun e w' => ∃ A c, e = .returned (.slice A l.length c) ∧ Chg No w w' ∧ Sat w0 (Row 5 1 (.slice A l.length c) l.length (l.map bv) * F) w' := by
  refine (clone_any S n l w hr hl).mono ?_
  rintro e w' ⟨v, rfl, h1, h2, h3⟩
  have h4 := h.gotRow h3 h1
  obtain ⟨A, c, rfl, _⟩ := h4.row_sl
  exact ⟨A, c, rfl, h3, h4⟩
end
/-- All of it is one's own. -/
def Owned (A : SP) : Prop := ∀ h, A h → ∀ k x, h k = some x → x.1 = false
theorem owned_emp : Owned Emp := fun h e k x hx => by unfold Emp at e; rw [e] at hx; cases hx
theorem owned_ow (b : Nat) (o : Obj) : Owned (Ow b o) := fun h e k x hx => by
  unfold Ow at e
  rw [e] at hx
  unfold one1 at hx
  split at hx
  · injection hx with hx; subst hx; rfl
  · cases hx
theorem owned_row (e : TypeId) (size : Nat) (v : Value) (n : Nat) (xs : List Value) : Owned (Row e size v n xs) := fun h he k x hx => by
  rcases he.2 with ⟨_, _, h1⟩ | ⟨g, cap, cur, _, _, _, _, _, h1⟩
  · exact owned_emp h h1 k x hx
  · exact owned_ow _ _ h h1 k x hx
theorem owned_star {A B : SP} (ha : Owned A) (hb : Owned B) : Owned (A * B) := fun h ⟨a, b, h1, h2, h3, h4⟩ k x hx => by
  rw [h2] at hx
  unfold Hp.un jn at hx
  cases hk : a k with
  | none => rw [hk] at hx; exact hb b h4 k x hx
  | some y => rw [hk] at hx; injection hx with hx; subst hx; exact ha a h3 k _ hk
/-- What a call has made, beside what was held. -/
theorem Sat.join {w0 w w' : World} {A F : SP} (h : Sat w0 F w) (k : Sat w A w') (hA : Owned A) : Sat w0 (A * F) w' := by
  obtain ⟨x, h1, h2⟩ := h.hp
  obtain ⟨y, k1, k2⟩ := k.hp
  have hs := h.size
  have hd : ∀ b u v, x b = some u → y b = some v → False := fun b u v hu hv => by
    have e1 := lt_of_block (h1 b u hu).1
    have e2 := (k1 b v hv).2 (hA y k2 b v hv)
    omega
  refine ⟨h.chg.tr k.chg, y.un x, fun b u hu => ?_, y, x, fun b => ?_, rfl, k2, h2⟩
  · unfold Hp.un jn at hu
    cases hk : y b with
    | none =>
      rw [hk] at hu
      have := h1 b u hu
      exact ⟨by rw [k.chg.block b (lt_of_block this.1) id]; exact this.1, this.2⟩
    | some v =>
      rw [hk] at hu; injection hu with hu; subst hu
      have := k1 b v hk
      exact ⟨this.1, fun e => Nat.le_trans hs (this.2 e)⟩
  · cases hy : y b with
    | none => exact .inl rfl
    | some v =>
      cases hx : x b with
      | none => exact .inr (.inl rfl)
      | some u => exact (hd b u v hx hy).elim
def CopiedS (w0 : World) (F : SP) (e : En) (x : Ending) (w' : World) : Prop := ∃ A c B d, x = .returned (enA ⟨(A, c, e.key.2.2), (B, d, e.value.2.2), e.seq, e.dead⟩) ∧
  Sat w0 (Row 5 1 (.slice A e.key.2.2.length c) e.key.2.2.length (e.key.2.2.map bv) * (Row 5 1 (.slice B e.value.2.2.length d) e.value.2.2.length (e.value.2.2.map bv) * F)) w'
set_option maxHeartbeats 1000000 in
theorem copied0 (e : En) (w : World) (hr : EnR w e) (hk : e.key.2.2.length ≤ 140737488355328) (hv : e.value.2.2.length ≤ 140737488355328) :
    Calls Try.prog 48 #[enA e] w (CopiedS w Emp e) := by
  have h := Sat.start w
  obtain ⟨⟨kA, kc, k⟩, ⟨vA, vc, v⟩, seq, dead⟩ := e
  have HRk : Hid (Rd w kA k) := hr.1
  have HRv : Hid (Rd w vA v) := hr.2
  have hk' : k.length ≤ 140737488355328 := hk
  have hv' : v.length ≤ 140737488355328 := hv
  have h1 := h.allocAt (b := w.heap.size) 34 #[.slice kA k.length kc, .slice vA v.length vc, .int .i64 seq, .bool dead] rfl
  have h2 := h1.allocAt (b := w.heap.size + 1) 34 #[.slice none 0 0, .slice none 0 0, .int .i64 0, .bool false] (by simp)
  have hc2 : Chg No w _ := ((Chg.refl No w).alloc (.cells #[.slice kA k.length kc, .slice vA v.length vc, .int .i64 seq, .bool dead] 34)).alloc (.cells #[.slice none 0 0, .slice none 0 0, .int .i64 0, .bool false] 34)
  clear hr h h1
  unfold enA
  go_enter Try.func48, Try.ntmps48
  go_wp2_with fail
  revert h2 hc2
  generalize (w.alloc _).alloc _ = W
  intro h2 hc2
  generalize w.heap.size + 1 = B at *
  generalize w.heap.size = E at *
  have c0 := h2.up2.cell 0; have c1 := h2.up2.cell 1; have c2 := h2.up2.cell 2; have c3 := h2.up2.cell 3
  have HS0 := Lib.hid h2
  have HC0 := Lib.hid hc2
  clear h2 hc2
  go_region_law (first
    | (go_simp; go_at_call 87; (with_reducible refine (cloneS kA kc k HS0.out.drew (HRk.out.new HC0.out.drew) hk').mono ?_); rintro x w1 ⟨A, c, rfl, k1, hs1⟩; have HS1 := Lib.hid hs1; have HC1 := Lib.hid (HC0.out.drew.tr k1); have c0 := hs1.up3.cell 0; have c1 := hs1.up3.cell 1; have c2 := hs1.up3.cell 2; have c3 := hs1.up3.cell 3; clear hs1 k1)
    | (go_simp; go_at_call 87; (with_reducible refine (cloneS vA vc v HS1.out (HRv.out.new HC1.out) hv').mono ?_); rintro x w2 ⟨B2, d, rfl, k2, hs2⟩; have HS2 := Lib.hid hs2; have HC2 := Lib.hid (HC1.out.tr k2); have c0 := hs2.up4.cell 0; have c1 := hs2.up4.cell 1; have c2 := hs2.up4.cell 2; have c3 := hs2.up4.cell 3; have f0 := hs2.up4.frozen 0; have f1 := hs2.up4.frozen 1; clear hs2 k2))
  all_goals
    have h5 := (HS2.out.up4.set 0 (.slice A k.length c)).set 1 (.slice B2 v.length d)
    clear f0 f1 c0 c1 c2 c3
    revert h5
    generalize World.setCell _ _ _ = w3
    intro h5
    have c0 := h5.cell 0; have c1 := h5.cell 1; have c2 := h5.cell 2; have c3 := h5.cell 3
    have d0 := h5.up4.cell 0; have d1 := h5.up4.cell 1; have d2 := h5.up4.cell 2; have d3 := h5.up4.cell 3
    have f0 := h5.up4.frozen 0; have f1 := h5.up4.frozen 1; have f2 := h5.up4.frozen 2; have f3 := h5.up4.frozen 3
    have h6 := (((h5.up4.set 0 (.slice A k.length c)).set 1 (.slice B2 v.length d)).set 2 (.int .i64 seq)).set 3 (.bool dead)
    go_wp2_with fail
    revert h6
    generalize World.setCell _ _ _ = w4
    intro h6
    refine bodyPost_ret (results_cell_row (p := 2) (by kernel_rfl) _ _ B 34 _ (0, 0) _ rfl h6.at Try.underlying34 rfl (by kernel_rfl)) rfl ?_
    exact ⟨A, c, B2, d, rfl, h6.right.right.up2⟩
theorem copied_any (e : En) (w0 w : World) (F : SP) (h : Sat w0 F w) (hr : EnR w e) (hk : e.key.2.2.length ≤ 140737488355328) (hv : e.value.2.2.length ≤ 140737488355328) :
    Calls Try.prog 48 #[enA e] w fun x w' => CopiedS w0 F e x w' ∧ Chg No w w' := by
  refine (copied0 e w hr hk hv).mono ?_
  rintro x w' ⟨A, c, B, d, rfl, hs⟩
  exact ⟨⟨A, c, B, d, rfl, (h.join hs (owned_star (owned_row _ _ _ _ _) (owned_star (owned_row _ _ _ _ _) owned_emp))).of (by rw [star_assoc, star_assoc, emp_star])⟩, hs.chg⟩
end Go.Proofs.Ytaoenbjfkahdjaa
