/- Entries and their order: bytes.Compare, cmp.Compare, mem's order and Less, the document's Less. -/
import Derived.Test.YtlcifkkgekpicaaApp
import Derived.Test.YtlcifkkgekpicaaClone
import Derived.Lib.Bytealg
import Derived.Lib.UnsafeStr
import Derived.Laws.Externs
import Derived.StringKeys
namespace Go.Proofs.Ytlcifkkgekpicaa
open Go.RowKit
set_option linter.unusedVariables false

/-- An entry where it lies. -/
structure En where
  key : Slc
  value : Slc
  seq : Int
  dead : Bool
/-- What an entry says. -/
structure Ent where
  key : List UInt8
  value : List UInt8
  seq : Int
  dead : Bool
def En.ent (e : En) : Ent := ⟨e.key.2.2, e.value.2.2, e.seq, e.dead⟩
def slv' (s : Slc) : Value := .slice s.1 s.2.2.length s.2.1
def enV (e : En) : List Value := [slv' e.key, slv' e.value, .int .i64 e.seq, .bool e.dead]
def enA (e : En) : Value := .agg #[.slice e.key.1 e.key.2.2.length e.key.2.1, .slice e.value.1 e.value.2.2.length e.value.2.1, .int .i64 e.seq, .bool e.dead]
/-- What may be read of an entry. -/
def EnR (w : World) (e : En) : Prop := Rd w e.key.1 e.key.2.2 ∧ Rd w e.value.1 e.value.2.2
theorem EnR.new {w w' : World} {e : En} (h : EnR w e) (k : Chg No w w') : EnR w' e := ⟨h.1.new k, h.2.new k⟩
def ordE (a b : Ent) : Int := if Lib.compareBytes a.key b.key = 0 then (if b.seq < a.seq then -1 else if a.seq < b.seq then 1 else 0) else Lib.compareBytes a.key b.key
def lessE (a b : Ent) : Bool := decide (ordE a b < 0)
section
variable {P : Program} {w : World} {A B : Option Addr} {l m : List UInt8}
theorem run_load8 : ∀ (l : List UInt8) (b o : Nat) (acc : ByteArray), (∀ j (hj : j < l.length), w.cell? ⟨b, o + j, none⟩ = some (.int .u8 (l[j].toNat : Int))) →
    (Extern.Bytes.loadBytes ⟨b, o, none⟩ l.length acc).run P w = .ok ⟨acc.data ++ l.toArray⟩ w
  | [], b, o, acc, _ => by simp [Extern.Bytes.loadBytes]
  | x :: l, b, o, acc, h => by
    have h0 : w.cell? ⟨b, o, none⟩ = some (.int .u8 (x.toNat : Int)) := h 0 (by simp)
    have ih := run_load8 l b (o + 1) (acc.push x) (fun j hj => by
      have := h (j + 1) (by simpa using hj)
      rw [show o + 1 + j = o + (j + 1) by omega]
      exact this)
    simp only [List.length_cons, Extern.Bytes.loadBytes, Sem.run_bind, run_load, h0, Result.andThen]
    have e : ((x.toNat : Int).toNat.toUInt8) = x := by simp
    rw [e]
    show (Extern.Bytes.loadBytes (Addr.add ⟨b, o, none⟩ 1) l.length (acc.push x)).run P w = _
    rw [show (Addr.add ⟨b, o, none⟩ 1) = ⟨b, o + 1, none⟩ from rfl, ih]
    congr 1
    apply ByteArray.ext
    simp [ByteArray.push]
theorem run_bytesOf (h : Rd w A l) (c : Nat) : (Extern.Bytes.bytesOf (.slice A l.length c)).run P w = .ok ⟨l.toArray⟩ w := by
  rcases A with _ | a
  · have hl : l = [] := by
      rcases l with _ | ⟨x, l⟩
      · rfl
      · obtain ⟨b, o, e, _⟩ := h (by simp); cases e
    subst hl
    rfl
  · by_cases hl : l = []
    · subst hl; rfl
    · obtain ⟨b, o, e, _⟩ := h.get (j := 0) (List.length_pos_iff.2 hl)
      injection e with e
      subst e
      have := run_load8 (P := P) (w := w) l b o .empty (fun j hj => by
        obtain ⟨b', o', e, hc⟩ := h.get hj
        injection e with e
        injection e with e1 e2
        subst e1; subst e2
        exact hc)
      show (Extern.Bytes.loadBytes ⟨b, o, none⟩ l.length .empty).run P w = _
      rw [this]
      congr 1
      apply ByteArray.ext
      simp
theorem run_cmpB (h : Rd w A l) (k : Rd w B m) (c d : Nat) : (Extern.BytealgCompare.compare #[.slice A l.length c, .slice B m.length d]).run P w = .ok (.int .i64 (Lib.compareBytes l m)) w := by
  change Sem.run P (do pure (goInt (Extern.BytealgCompare.cmp (← Extern.Bytes.bytesOf (.slice A l.length c)) (← Extern.Bytes.bytesOf (.slice B m.length d))))) w = _
  simp only [Sem.run_bind, Sem.run_pure, run_bytesOf h, run_bytesOf k, Result.andThen]
  rw [Lib.cmp_eq]
  rfl
end
theorem cmpB_any (a b : Slc) (w : World) (h : Rd w a.1 a.2.2) (k : Rd w b.1 b.2.2) :
    Calls Try.prog 49 #[.slice a.1 a.2.2.length a.2.1, .slice b.1 b.2.2.length b.2.1] w fun e w' => e = .returned (.int .i64 (Lib.compareBytes a.2.2 b.2.2)) ∧ w' = w := by
  go_enter Try.func49, Try.ntmps49
  go_wp2
  rw [run_callFunc_extern Try.func54 (by kernel_rfl) (by kernel_rfl) (by kernel_rfl) (e := Extern.BytealgCompare.compare) (by kernel_rfl), run_cmpB h k]
  simp only [Result.andThen]
  rw [Oper.upon_value]
  go_wp2
  go_ret
  exact ⟨rfl, rfl⟩
theorem nanI_any (x : Int) (w : World) : Calls Try.prog 55 #[.int .i64 x] w fun e w' => e = .returned (.bool false) ∧ w' = w := by
  go_enter Try.func55, Try.ntmps55
  go_wp2
  go_ret
  exact ⟨by simp, rfl⟩
def cmpI (a b : Int) : Int := if a < b then -1 else if b < a then 1 else 0
theorem cmpI_any (a b : Int) (w : World) : Calls Try.prog 50 #[.int .i64 a, .int .i64 b] w fun e w' => e = .returned (.int .i64 (cmpI a b)) ∧ w' = w := by
  unfold cmpI
  go_enter Try.func50, Try.ntmps50
  go_wp2_with (go_at_call 55; refine (nanI_any _ _).mono ?_; rintro e w' ⟨rfl, rfl⟩)
  all_goals (go_ret; refine ⟨?_, rfl⟩; simp <;> omega)
theorem ordE_eq (a b : Ent) (c : Int) (h : Lib.compareBytes a.key b.key = c) : ordE a b = if c = 0 then cmpI b.seq a.seq else c := by unfold ordE cmpI; rw [h]
theorem order_any (a b : En) (w : World) (h : EnR w a) (k : EnR w b) :
    Calls Try.prog 35 #[enA a, enA b] w fun e w' => e = .returned (.int .i64 (ordE a.ent b.ent)) ∧ Chg No w w' := by
  have HQ : Hid (ordE a.ent b.ent = if Lib.compareBytes a.key.2.2 b.key.2.2 = 0 then cmpI b.seq a.seq else Lib.compareBytes a.key.2.2 b.key.2.2) := ordE_eq _ _ _ rfl
  unfold enA
  go_enter Try.func35, Try.ntmps35
  have HL := Lib.hid h
  have HK := Lib.hid k
  clear h k
  go_wp2_with (first
    | (go_at_call 49; refine (cmpB_any a.key b.key _ (HL.out.1.alloc _ |>.alloc _) (HK.out.1.alloc _ |>.alloc _)).mono ?_; rintro e w' ⟨rfl, rfl⟩)
    | (go_at_call 50; refine (cmpI_any _ _ _).mono ?_; rintro e w' ⟨rfl, rfl⟩))
  · go_ret
    have hn : ¬ Lib.compareBytes a.key.2.2 b.key.2.2 = 0 := by first | assumption | simp_all
    exact ⟨by rw [HQ.out, if_neg hn]; rfl, ((Chg.refl No w).alloc _).alloc _⟩
  · go_ret
    have hn : Lib.compareBytes a.key.2.2 b.key.2.2 = 0 := by first | assumption | simp_all
    exact ⟨by rw [HQ.out, if_pos hn]; rfl, ((Chg.refl No w).alloc _).alloc _⟩
theorem less_any (a b : En) (w : World) (h : EnR w a) (k : EnR w b) :
    Calls Try.prog 8 #[enA a, enA b] w fun e w' => e = .returned (.bool (lessE a.ent b.ent)) ∧ Chg No w w' := by
  have HQ : Hid (lessE a.ent b.ent = decide (ordE a.ent b.ent < 0)) := rfl
  have HE : Hid (∀ e : En, enA e = .agg #[.slice e.key.1 e.key.2.2.length e.key.2.1, .slice e.value.1 e.value.2.2.length e.value.2.1, .int .i64 e.seq, .bool e.dead]) := fun _ => rfl
  rw [HE.out, HE.out]
  go_enter Try.func8, Try.ntmps8
  have HL := Lib.hid h
  have HK := Lib.hid k
  clear h k
  have k0 : Chg No w ((w.alloc (.cells #[.slice a.key.1 a.key.2.2.length a.key.2.1, .slice a.value.1 a.value.2.2.length a.value.2.1, .int .i64 a.seq, .bool a.dead] 24)).alloc (.cells #[.slice b.key.1 b.key.2.2.length b.key.2.1, .slice b.value.1 b.value.2.2.length b.value.2.1, .int .i64 b.seq, .bool b.dead] 24)) := ((Chg.refl No w).alloc _).alloc _
  go_wp2_with (go_at_call 35; rw [← HE.out, ← HE.out]; refine (order_any a b _ (HL.out.new k0) (HK.out.new k0)).mono ?_; rintro e w' ⟨rfl, k1⟩)
  go_ret
  refine ⟨by rw [HQ.out]; rfl, k0.tr k1⟩
end Go.Proofs.Ytlcifkkgekpicaa
