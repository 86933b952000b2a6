/- The table as a plain row: what a Put does to it, what Range and Get tell of it. -/
import Derived.Test.YtlcifkkgekpicaaMemGet
import Derived.Test.YtlcifkkgekpicaaMemOpen
namespace Go.Proofs.Ytlcifkkgekpicaa
open Go.RowKit
set_option linter.unusedVariables false

/-- An entry and its height. -/
abbrev Pr := Ent × Nat
def aheadM (e : Ent) (L : List Pr) : List Pr := L.takeWhile fun p => lessE p.1 e
def behindM (e : Ent) (L : List Pr) : List Pr := L.dropWhile fun p => lessE p.1 e
def twiceM (e : Ent) (L : List Pr) : Bool := match behindM e L with | p :: _ => decide (ordE p.1 e = 0) | [] => false
/-- What a Put leaves. -/
def insM (e : Ent) (h : Nat) (L : List Pr) : List Pr := if twiceM e L then L else aheadM e L ++ (e, h) :: behindM e L
def absN (n : Nd) : Pr := (n.e.ent, n.h)
def absL (ns : List Nd) : List Pr := ns.map absN
theorem abs_ahead (e : Ent) (ns : List Nd) : absL (ahead e ns) = aheadM e (absL ns) := by
  unfold absL aheadM ahead
  induction ns with
  | nil => rfl
  | cons n ns ih =>
    rw [List.map_cons, List.takeWhile_cons, List.takeWhile_cons]
    show List.map absN (if lessE n.e.ent e = true then _ else _) = if lessE n.e.ent e = true then _ else _
    split
    · rw [List.map_cons, ih]
    · rfl
theorem abs_behind (e : Ent) (ns : List Nd) : absL (behind e ns) = behindM e (absL ns) := by
  unfold absL behindM behind
  induction ns with
  | nil => rfl
  | cons n ns ih =>
    rw [List.map_cons, List.dropWhile_cons, List.dropWhile_cons]
    show List.map absN (if lessE n.e.ent e = true then _ else _) = if lessE n.e.ent e = true then _ else _
    split
    · exact ih
    · rfl
theorem abs_twice (e : Ent) (ns : List Nd) : twice e ns = twiceM e (absL ns) := by
  unfold twice twiceM
  rw [← abs_behind]
  cases behind e ns <;> rfl
theorem byt_app (a b : List Ent) : byt (a ++ b) = byt a + byt b := by
  unfold byt
  induction a with
  | nil => simp
  | cons x a ih => simp only [List.cons_append, List.foldr_cons]; omega
/-- The highest number. -/
def topSeq : Int := 9223372036854775807
/-- A table of short entries. -/
structure Tab (ns : List Nd) (n : Nat) : Prop where
  ok : NOk ns
  len : ns.length ≤ n
  each : ∀ m ∈ ns, m.e.key.2.2.length ≤ 200 ∧ m.e.value.2.2.length ≤ 200 ∧ m.e.seq ≤ topSeq
def bytN (ns : List Nd) : Nat := byt (ns.map fun n => n.e.ent)
theorem byt_le : ∀ l : List Nd, (∀ m ∈ l, m.e.key.2.2.length ≤ 200 ∧ m.e.value.2.2.length ≤ 200 ∧ m.e.seq ≤ topSeq) → bytN l ≤ l.length * 400
  | [], _ => Nat.zero_le _
  | x :: l, h => by
    have h3 := byt_le l fun m hm => h m (List.mem_cons_of_mem _ hm)
    have h4 := h x List.mem_cons_self
    show x.e.key.2.2.length + x.e.value.2.2.length + bytN l ≤ _
    simp only [List.length_cons]
    omega
theorem Tab.bytle {ns : List Nd} {n : Nat} (h : Tab ns n) : bytN ns ≤ n * 400 := by
  exact Nat.le_trans (byt_le ns h.each) (Nat.mul_le_mul_right _ h.len)
theorem Tab.small {ns : List Nd} {n : Nat} (h : Tab ns n) (hn : n ≤ 1000) : Small ns := ⟨by have := h.len; omega, fun m hm => by have := h.each m hm; omega⟩
theorem tab_nil (n : Nat) : Tab [] n := ⟨nok_nil, Nat.zero_le _, by simp⟩
def SkipT (b hr : Nat) (ns : List Nd) : SP := SkipC b hr ns ns.length (bytN ns)
theorem newT_any (w0 w : World) (F : SP) (h : Sat w0 F w) : Calls Try.prog 13 #[] w fun x w' => ∃ b hr, x = .returned (.pointer (some ⟨b, 0, none⟩)) ∧ Sat w0 (SkipT b hr [] * F) w' := new_any w0 w F h
/-- What a Put leaves of a table. -/
def PutT (w0 : World) (F : SP) (b hr : Nat) (ns : List Nd) (n : Nat) (e : Ent) (H : Int) (x : Ending) (w' : World) : Prop :=
  ∃ ns', x = .returned (.int .i64 (if twiceM e (absL ns) then 50 else 0)) ∧ Tab ns' (n + 1) ∧ absL ns' = insM e (clampH H) (absL ns) ∧ Sat w0 (SkipT b hr ns' * F) w'
theorem putT_any (b hr : Nat) (ns : List Nd) (n : Nat) (H : Int) (e : En) (w0 w : World) (F : SP) (h : Sat w0 (SkipT b hr ns * F) w) (ht : Tab ns n) (hn : n ≤ 1000) (he : EnR w e)
    (hk : e.key.2.2.length ≤ 200) (hv : e.value.2.2.length ≤ 200) (hs : e.seq ≤ topSeq) :
    Calls Try.prog 14 #[.pointer (some ⟨b, 0, none⟩), enA e, .int .i64 H] w (PutT w0 F b hr ns n e.ent H) := by
  have hb : 0 ≤ (bytN ns : Int) ∧ (bytN ns : Int) ≤ 1000000000000 := by
    have := ht.bytle
    generalize bytN ns = q at *
    omega
  have hl := ht.len
  refine (put_any b hr ns ns.length (bytN ns) H e w0 w F h ht.ok he (by omega) (by omega) (by omega) hb).mono ?_
  rintro x w' (⟨h1, rfl, h2⟩ | ⟨h1, rfl, N, a1, a2, a3, h2⟩)
  · rw [abs_twice] at h1
    exact ⟨ns, by rw [h1]; rfl, ⟨ht.ok, by omega, ht.each⟩, by unfold insM; rw [h1]; rfl, h2⟩
  · have hok := nok_put (H := H) ht.ok h1 a1 a2 a3
    have hab := ahead_behind e.ent ns
    have hlen : ns.length = (ahead e.ent ns).length + (behind e.ent ns).length := by conv => lhs; rw [hab, List.length_append]
    have hbyt : bytN ns = bytN (ahead e.ent ns) + bytN (behind e.ent ns) := by
      conv => lhs; rw [hab]
      unfold bytN
      rw [List.map_append, byt_app]
    rw [abs_twice] at h1
    refine ⟨ahead e.ent ns ++ N :: behind e.ent ns, by rw [h1]; rfl, ⟨hok, ?_, ?_⟩, ?_, ?_⟩
    · rw [List.length_append, List.length_cons]; omega
    · intro m hm
      rcases List.mem_append.1 hm with hm | hm
      · exact ht.each m (by rw [hab]; exact List.mem_append_left _ hm)
      · rcases List.mem_cons.1 hm with rfl | hm
        · have k1 : m.e.key.2.2 = e.key.2.2 := congrArg Ent.key a1
          have k2 : m.e.value.2.2 = e.value.2.2 := congrArg Ent.value a1
          have k3 : m.e.seq = e.seq := congrArg Ent.seq a1
          rw [k1, k2, k3]
          exact ⟨hk, hv, hs⟩
        · exact ht.each m (by rw [hab]; exact List.mem_append_right _ hm)
    · unfold insM
      rw [h1, ← abs_ahead, ← abs_behind]
      show absL (_ ++ N :: _) = absL _ ++ _ :: absL _
      unfold absL
      rw [List.map_append, List.map_cons]
      have : absN N = (e.ent, clampH H) := by unfold absN; rw [a1, a3]
      rw [this]
    · refine h2.of ?_
      unfold SkipT
      have e1 : ((ahead e.ent ns ++ N :: behind e.ent ns).length : Int) = (ns.length : Int) + 1 := by rw [List.length_append, List.length_cons]; omega
      have e2 : (bytN (ahead e.ent ns ++ N :: behind e.ent ns) : Int) = (bytN ns : Int) + ((e.ent.key.length + e.ent.value.length : Nat) : Int) := by
        have : bytN (ahead e.ent ns ++ N :: behind e.ent ns) = bytN (ahead e.ent ns) + (N.e.ent.key.length + N.e.ent.value.length + bytN (behind e.ent ns)) := by
          unfold bytN
          rw [List.map_append, byt_app]
          rfl
        rw [this, a1]
        omega
      rw [e1, e2]
/-- Entries in new memory, to be read. -/
theorem ownE_r {w0 w : World} {F : SP} : ∀ {es : List En}, Sat w0 (OwnE es * F) w → EnsR w es
  | [], _ => fun e he => by simp at he
  | e :: es, h => by
    have h1 : Sat w0 (Row 5 1 (slv' e.key) e.key.2.2.length (e.key.2.2.map bv) * (Row 5 1 (slv' e.value) e.value.2.2.length (e.value.2.2.map bv) * (OwnE es * F))) w := h.of (by
      show Row _ _ _ _ _ * (Row _ _ _ _ _ * OwnE es) * F = _
      ac_rfl)
    intro x hx
    rcases List.mem_cons.1 hx with rfl | hx
    · obtain ⟨A, c, e1, r1, _⟩ := Sat.row_rd (h := h1)
      obtain ⟨B, d, e2, r2, _⟩ := Sat.row_rd (h := h1.up2)
      unfold slv' at e1 e2
      injection e1 with e1
      injection e2 with e2
      exact ⟨by rw [e1]; exact r1, by rw [e2]; exact r2⟩
    · exact ownE_r h1.right.right x hx
/-- What all of a table is. -/
theorem range_all {ns : List Nd} {n : Nat} (ht : Tab ns n) : rangeE [] [] ns = (absL ns).map (·.1) := by
  unfold rangeE
  have h0 : behind (fromE []) ns = ns := by
    cases ns with
    | nil => rfl
    | cons m s =>
      unfold behind
      rw [List.dropWhile_cons]
      have h1 : lessE m.e.ent (fromE []) = false := by
        cases hq : lessE m.e.ent (fromE []) with
        | false => rfl
        | true =>
          exfalso
          have h2 : LTE m.e.ent (fromE []) := hq
          rw [lte_iff] at h2
          have h3 := ht.each m List.mem_cons_self
          rcases h2 with h2 | ⟨_, h2⟩
          · have : ∀ l : List UInt8, ¬ Lib.compareBytes l [] < 0 := by intro l; cases l <;> simp [Lib.compareBytes]
            exact this _ h2
          · have h2 : topSeq < m.e.seq := h2
            omega
      rw [h1]
      rfl
  rw [h0]
  unfold witE
  rw [List.filter_eq_self.2 (fun m hm => by have := ht.ok.full m hm; simp; omega)]
  have e : ns.map (fun n => n.e.ent) = (absL ns).map (·.1) := by unfold absL; rw [List.map_map]; rfl
  rw [e]
  have hall : ∀ l : List Ent, l.takeWhile (inB []) = l := by
    intro l
    induction l with
    | nil => rfl
    | cons x l ih => rw [List.takeWhile_cons, show inB [] x = true from rfl, if_pos rfl, ih]
  exact hall _
/-- What all of a table reads as. -/
def AllE (w : World) (l : List Ent) (x : Ending) (w' : World) : Prop := ∃ (es : List En) (A : Option Addr) (c : Nat), x = .returned (.slice A es.length c) ∧ es.map En.ent = l ∧ es.length ≤ c ∧ c ≤ maxLen ∧ RdV w' A (es.flatMap enV) ∧ EnsR w' es ∧ Chg No w w'
theorem ToldE.all {w w' : World} {l : List Ent} {x : Ending} (h : ToldE w l x w') (hl : l.length ≤ 1000000) : AllE w l x w' := by
  obtain ⟨es, A, c, rfl, he, hs⟩ := h
  obtain ⟨A', c', e1, h1, h2⟩ := Sat.row_sl hs
  injection e1 with e1 _ e2
  subst e1; subst e2
  refine ⟨es, A, c, rfl, he, h1, h2, ?_, ownE_r (hs.right.of (star_emp _).symm), hs.chg⟩
  intro hx
  have hn : 0 < es.length := by
    cases es with
    | nil => simp at hx
    | cons => simp
  obtain ⟨g, rfl, hg⟩ := hs.row_at hn
  exact ⟨g, 0, rfl, fun j hj => by rw [Nat.zero_add]; exact hg j hj⟩
theorem all_any (b hr : Nat) (ns : List Nd) (n : Nat) (w0 w : World) (F : SP) (h : Sat w0 (SkipT b hr ns * F) w) (ht : Tab ns n) (hn : n ≤ 1000) :
    Calls Try.prog 17 #[.pointer (some ⟨b, 0, none⟩), .slice none 0 0, .slice none 0 0] w (AllE w ((absL ns).map (·.1))) := by
  refine (range_any none 0 [] none 0 [] b hr ns w (Rd.nil _ _) (Rd.nil _ _) (h.view ht.ok) ht.ok (ht.small hn)).mono ?_
  intro x w' hx
  rw [range_all ht] at hx
  exact hx.all (by have := ht.len; simp [absL]; omega)
theorem getT_any (K : Slc) (seq : Int) (b hr : Nat) (ns : List Nd) (n : Nat) (w0 w : World) (F : SP) (hk : Rd w K.1 K.2.2) (h : Sat w0 (SkipT b hr ns * F) w) (ht : Tab ns n) (hn : n ≤ 1000) :
    Calls Try.prog 16 #[.pointer (some ⟨b, 0, none⟩), .slice K.1 K.2.2.length K.2.1, .int .i64 seq] w fun x w' => (∃ g : En, x = .returned (.tuple #[enA g, .bool (getE K.2.2 seq ns).isSome]) ∧ g.ent = (getE K.2.2 seq ns).getD noE ∧ EnR w' g) ∧ Chg No w w' := by
  refine (get_any K seq b hr ns w hk (h.view ht.ok) ht.ok (ht.small hn)).mono ?_
  rintro x w' ⟨g, rfl, h1, h2⟩
  exact ⟨⟨g, rfl, h1, ownE_r (h2.of (star_emp _).symm) g (by simp)⟩, h2.chg⟩
end Go.Proofs.Ytlcifkkgekpicaa
