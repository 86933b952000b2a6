/- Joined, as they were built one by one: MemTab TabOpenP TabLaw MemBest MemLev. -/
import Derived.Deep.CutBlock
import Derived.Test.YtaoenbjfkahdjaaQ04
import Derived.Test.YtaoenbjfkahdjaaQ06
import Derived.Test.YtaoenbjfkahdjaaQ08
import Derived.Test.YtaoenbjfkahdjaaQ09
namespace Go.Proofs.Ytaoenbjfkahdjaa
open Go.RowKit
set_option linter.unusedVariables false
set_option maxRecDepth 100000

/-- An entry and its height. -/
abbrev Pr := Ent × Nat
def aheadM (e : Ent) (L : List Pr) : List Pr := L.takeWhile fun p => lessE p.1 e
def behindM (e : Ent) (L : List Pr) : List Pr := L.dropWhile fun p => lessE p.1 e
def twiceM (e : Ent) (L : List Pr) : Bool := match behindM e L with | p :: _ => decide (ordE p.1 e = 0) | [] => false
/-- What a Put leaves. -/
def insM (e : Ent) (h : Nat) (L : List Pr) : List Pr := if twiceM e L then L else aheadM e L ++ (e, h) :: behindM e L
def absN (n : Nd) : Pr := (n.e.ent, n.h)
def absL (ns : List Nd) : List Pr := ns.map absN
theorem abs_ahead (e : Ent) (ns : List Nd) : absL (ahead e ns) = aheadM e (absL ns) := by
  unfold absL aheadM ahead
  induction ns with
  | nil => rfl
  | cons n ns ih =>
    rw [List.map_cons, List.takeWhile_cons, List.takeWhile_cons]
    show List.map absN (if lessE n.e.ent e = true then _ else _) = if lessE n.e.ent e = true then _ else _
    split
    · rw [List.map_cons, ih]
    · rfl
theorem abs_behind (e : Ent) (ns : List Nd) : absL (behind e ns) = behindM e (absL ns) := by
  unfold absL behindM behind
  induction ns with
  | nil => rfl
  | cons n ns ih =>
    rw [List.map_cons, List.dropWhile_cons, List.dropWhile_cons]
    show List.map absN (if lessE n.e.ent e = true then _ else _) = if lessE n.e.ent e = true then _ else _
    split
    · exact ih
    · rfl
theorem abs_twice (e : Ent) (ns : List Nd) : twice e ns = twiceM e (absL ns) := by
  unfold twice twiceM
  rw [← abs_behind]
  cases behind e ns <;> rfl
theorem byt_app (a b : List Ent) : byt (a ++ b) = byt a + byt b := by
  unfold byt
  induction a with
  | nil => simp
  | cons x a ih => simp only [List.cons_append, List.foldr_cons]; omega
/-- The highest number. -/
def topSeq : Int := 9223372036854775807
/-- A table of short entries. -/
structure Tab (ns : List Nd) (n : Nat) : Prop where
  ok : NOk ns
  len : ns.length ≤ n
  each : ∀ m ∈ ns, m.e.key.2.2.length ≤ 200 ∧ m.e.value.2.2.length ≤ 200 ∧ m.e.seq ≤ topSeq
def bytN (ns : List Nd) : Nat := byt (ns.map fun n => n.e.ent)
theorem byt_le : ∀ l : List Nd, (∀ m ∈ l, m.e.key.2.2.length ≤ 200 ∧ m.e.value.2.2.length ≤ 200 ∧ m.e.seq ≤ topSeq) → bytN l ≤ l.length * 400
  | [], _ => Nat.zero_le _
  | x :: l, h => by
    have h3 := byt_le l fun m hm => h m (List.mem_cons_of_mem _ hm)
    have h4 := h x List.mem_cons_self
    show x.e.key.2.2.length + x.e.value.2.2.length + bytN l ≤ _
    simp only [List.length_cons]
    omega
theorem Tab.bytle {ns : List Nd} {n : Nat} (h : Tab ns n) : bytN ns ≤ n * 400 := by
  exact Nat.le_trans (byt_le ns h.each) (Nat.mul_le_mul_right _ h.len)
theorem Tab.small {ns : List Nd} {n : Nat} (h : Tab ns n) (hn : n ≤ 1000) : Small ns := ⟨by have := h.len; omega, fun m hm => by have := h.each m hm; omega⟩
theorem tab_nil (n : Nat) : Tab [] n := ⟨nok_nil, Nat.zero_le _, by simp⟩
def SkipT (b hr : Nat) (ns : List Nd) : SP := SkipC b hr ns ns.length (bytN ns)
theorem newT_any (w0 w : World) (F : SP) (h : Sat w0 F w) : Calls Try.prog 11 #[] w fun x w' => ∃ b hr, x = .returned (.pointer (some ⟨b, 0, none⟩)) ∧ Sat w0 (SkipT b hr [] * F) w' := mnew_any w0 w F h
/-- What a Put leaves of a table. -/
def PutT (w0 : World) (F : SP) (b hr : Nat) (ns : List Nd) (n : Nat) (e : Ent) (H : Int) (x : Ending) (w' : World) : Prop :=
  ∃ ns', x = .returned (.int .i64 (if twiceM e (absL ns) then 50 else 0)) ∧ Tab ns' (n + 1) ∧ absL ns' = insM e (clampH H) (absL ns) ∧ Sat w0 (SkipT b hr ns' * F) w'
theorem putT_any (b hr : Nat) (ns : List Nd) (n : Nat) (H : Int) (e : En) (w0 w : World) (F : SP) (h : Sat w0 (SkipT b hr ns * F) w) (ht : Tab ns n) (hn : n ≤ 1000) (he : EnR w e)
    (hk : e.key.2.2.length ≤ 200) (hv : e.value.2.2.length ≤ 200) (hs : e.seq ≤ topSeq) :
    Calls Try.prog 13 #[.pointer (some ⟨b, 0, none⟩), enA e, .int .i64 H] w (PutT w0 F b hr ns n e.ent H) := by
  have hb : 0 ≤ (bytN ns : Int) ∧ (bytN ns : Int) ≤ 1000000000000 := by
    have := ht.bytle
    generalize bytN ns = q at *
    omega
  have hl := ht.len
  refine (mput_any b hr ns ns.length (bytN ns) H e w0 w F h ht.ok he (by omega) (by omega) (by omega) hb).mono ?_
  rintro x w' (⟨h1, rfl, h2⟩ | ⟨h1, rfl, N, a1, a2, a3, h2⟩)
  · rw [abs_twice] at h1
    exact ⟨ns, by rw [h1]; rfl, ⟨ht.ok, by omega, ht.each⟩, by unfold insM; rw [h1]; rfl, h2⟩
  · have hok := nok_put (H := H) ht.ok h1 a1 a2 a3
    have hab := ahead_behind e.ent ns
    have hlen : ns.length = (ahead e.ent ns).length + (behind e.ent ns).length := by conv => lhs; rw [hab, List.length_append]
    have hbyt : bytN ns = bytN (ahead e.ent ns) + bytN (behind e.ent ns) := by
      conv => lhs; rw [hab]
      unfold bytN
      rw [List.map_append, byt_app]
    rw [abs_twice] at h1
    refine ⟨ahead e.ent ns ++ N :: behind e.ent ns, by rw [h1]; rfl, ⟨hok, ?_, ?_⟩, ?_, ?_⟩
    · rw [List.length_append, List.length_cons]; omega
    · intro m hm
      rcases List.mem_append.1 hm with hm | hm
      · exact ht.each m (by rw [hab]; exact List.mem_append_left _ hm)
      · rcases List.mem_cons.1 hm with rfl | hm
        · have k1 : m.e.key.2.2 = e.key.2.2 := congrArg Ent.key a1
          have k2 : m.e.value.2.2 = e.value.2.2 := congrArg Ent.value a1
          have k3 : m.e.seq = e.seq := congrArg Ent.seq a1
          rw [k1, k2, k3]
          exact ⟨hk, hv, hs⟩
        · exact ht.each m (by rw [hab]; exact List.mem_append_right _ hm)
    · unfold insM
      rw [h1, ← abs_ahead, ← abs_behind]
      show absL (_ ++ N :: _) = absL _ ++ _ :: absL _
      unfold absL
      rw [List.map_append, List.map_cons]
      have : absN N = (e.ent, clampH H) := by unfold absN; rw [a1, a3]
      rw [this]
    · refine h2.of ?_
      unfold SkipT
      have e1 : ((ahead e.ent ns ++ N :: behind e.ent ns).length : Int) = (ns.length : Int) + 1 := by rw [List.length_append, List.length_cons]; omega
      have e2 : (bytN (ahead e.ent ns ++ N :: behind e.ent ns) : Int) = (bytN ns : Int) + ((e.ent.key.length + e.ent.value.length : Nat) : Int) := by
        have : bytN (ahead e.ent ns ++ N :: behind e.ent ns) = bytN (ahead e.ent ns) + (N.e.ent.key.length + N.e.ent.value.length + bytN (behind e.ent ns)) := by
          unfold bytN
          rw [List.map_append, byt_app]
          rfl
        rw [this, a1]
        omega
      rw [e1, e2]
/-- Entries in new memory, to be read. -/
theorem ownE_r {w0 w : World} {F : SP} : ∀ {es : List En}, Sat w0 (OwnE es * F) w → EnsR w es
  | [], _ => fun e he => by simp at he
  | e :: es, h => by
    have h1 : Sat w0 (Row 5 1 (slv' e.key) e.key.2.2.length (e.key.2.2.map bv) * (Row 5 1 (slv' e.value) e.value.2.2.length (e.value.2.2.map bv) * (OwnE es * F))) w := h.of (by
      show Row _ _ _ _ _ * (Row _ _ _ _ _ * OwnE es) * F = _
      ac_rfl)
    intro x hx
    rcases List.mem_cons.1 hx with rfl | hx
    · obtain ⟨A, c, e1, r1, _⟩ := Sat.row_rd (h := h1)
      obtain ⟨B, d, e2, r2, _⟩ := Sat.row_rd (h := h1.up2)
      unfold slv' at e1 e2
      injection e1 with e1
      injection e2 with e2
      exact ⟨by rw [e1]; exact r1, by rw [e2]; exact r2⟩
    · exact ownE_r h1.right.right x hx
/-- What all of a table is. -/
theorem range_all {ns : List Nd} {n : Nat} (ht : Tab ns n) : rangeE [] [] ns = (absL ns).map (·.1) := by
  unfold rangeE
  have h0 : behind (fromE []) ns = ns := by
    cases ns with
    | nil => rfl
    | cons m s =>
      unfold behind
      rw [List.dropWhile_cons]
      have h1 : lessE m.e.ent (fromE []) = false := by
        cases hq : lessE m.e.ent (fromE []) with
        | false => rfl
        | true =>
          exfalso
          have h2 : LTE m.e.ent (fromE []) := hq
          rw [lte_iff] at h2
          have h3 := ht.each m List.mem_cons_self
          rcases h2 with h2 | ⟨_, h2⟩
          · have : ∀ l : List UInt8, ¬ Lib.compareBytes l [] < 0 := by intro l; cases l <;> simp [Lib.compareBytes]
            exact this _ h2
          · have h2 : topSeq < m.e.seq := h2
            omega
      rw [h1]
      rfl
  rw [h0]
  unfold witE
  rw [List.filter_eq_self.2 (fun m hm => by have := ht.ok.full m hm; simp; omega)]
  have e : ns.map (fun n => n.e.ent) = (absL ns).map (·.1) := by unfold absL; rw [List.map_map]; rfl
  rw [e]
  have hall : ∀ l : List Ent, l.takeWhile (inB []) = l := by
    intro l
    induction l with
    | nil => rfl
    | cons x l ih => rw [List.takeWhile_cons, show inB [] x = true from rfl, if_pos rfl, ih]
  exact hall _
/-- What all of a table reads as. -/
def AllE (w : World) (l : List Ent) (x : Ending) (w' : World) : Prop := ∃ (es : List En) (A : Option Addr) (c : Nat), x = .returned (.slice A es.length c) ∧ es.map En.ent = l ∧ es.length ≤ c ∧ c ≤ maxLen ∧ RdV w' A (es.flatMap enV) ∧ EnsR w' es ∧ Chg No w w'
theorem ToldE.all {w w' : World} {l : List Ent} {x : Ending} (h : ToldE w l x w') (hl : l.length ≤ 1000000) : AllE w l x w' := by
  obtain ⟨es, A, c, rfl, he, hs⟩ := h
  obtain ⟨A', c', e1, h1, h2⟩ := Sat.row_sl hs
  injection e1 with e1 _ e2
  subst e1; subst e2
  refine ⟨es, A, c, rfl, he, h1, h2, ?_, ownE_r (hs.right.of (star_emp _).symm), hs.chg⟩
  intro hx
  have hn : 0 < es.length := by
    cases es with
    | nil => simp at hx
    | cons => simp
  obtain ⟨g, rfl, hg⟩ := hs.row_at hn
  exact ⟨g, 0, rfl, fun j hj => by rw [Nat.zero_add]; exact hg j hj⟩
theorem all_any (b hr : Nat) (ns : List Nd) (n : Nat) (w0 w : World) (F : SP) (h : Sat w0 (SkipT b hr ns * F) w) (ht : Tab ns n) (hn : n ≤ 1000) :
    Calls Try.prog 20 #[.pointer (some ⟨b, 0, none⟩), .slice none 0 0, .slice none 0 0] w (AllE w ((absL ns).map (·.1))) := by
  refine (range_any none 0 [] none 0 [] b hr ns w (Rd.nil _ _) (Rd.nil _ _) (h.view ht.ok) ht.ok (ht.small hn)).mono ?_
  intro x w' hx
  rw [range_all ht] at hx
  exact hx.all (by have := ht.len; simp [absL]; omega)
theorem getT_any (K : Slc) (seq : Int) (b hr : Nat) (ns : List Nd) (n : Nat) (w0 w : World) (F : SP) (hk : Rd w K.1 K.2.2) (h : Sat w0 (SkipT b hr ns * F) w) (ht : Tab ns n) (hn : n ≤ 1000) :
    Calls Try.prog 21 #[.pointer (some ⟨b, 0, none⟩), .slice K.1 K.2.2.length K.2.1, .int .i64 seq] w fun x w' => (∃ g : En, x = .returned (.tuple #[enA g, .bool (getE K.2.2 seq ns).isSome]) ∧ g.ent = (getE K.2.2 seq ns).getD noE ∧ EnR w' g) ∧ Chg No w w' := by
  refine (get_any K seq b hr ns w hk (h.view ht.ok) ht.ok (ht.small hn)).mono ?_
  rintro x w' ⟨g, rfl, h1, h2⟩
  exact ⟨⟨g, rfl, h1, ownE_r (h2.of (star_emp _).symm) g (by simp)⟩, h2.chg⟩
end Go.Proofs.Ytaoenbjfkahdjaa
namespace Go.Proofs.Ytaoenbjfkahdjaa
open Go.RowKit
set_option linter.unusedVariables false
set_option maxRecDepth 100000

abbrev StP := List Ent × List UInt8 × Bool
/-- The key that the next entry's bytes stand behind. -/
def aheadS (L : List Ent) : List UInt8 := if L.length % 8 = 0 then [] else match L[L.length - 1]? with | some e => e.key | none => []
def stepP (st : StP) : StP := let p := entP (aheadS st.1) st.2.1 st.2.2; (st.1 ++ [p.1], p.2)
/-- At most so many more entries. -/
def runP : Nat → StP → StP
  | 0, st => st
  | k + 1, st => if st.2.2 = true then st else runP k (stepP st)
theorem runP_short (k : Nat) {st : StP} (h : st.2.2 = true) : runP k st = st := by
  cases k with
  | zero => rfl
  | succ k => unfold runP; rw [if_pos h]
theorem runP_step (k : Nat) {st : StP} (h : st.2.2 = false) : runP (k + 1) st = runP k (stepP st) := by
  conv => lhs; unfold runP
  rw [if_neg (by rw [h]; simp)]
def sumOk (b : List UInt8) : Bool := decide (4 ≤ b.length) && decide (putB (sumB (b.take (b.length - 4))) 4 = b.drop (b.length - 4))
/-- What the bytes behind the mark say. -/
def readP (b : List UInt8) : StP := let t := takeP 4 b false; let c := takeP 4 t.2.1 t.2.2; runP (getN c.1) ([], c.2)
/-- What Open says of bytes. -/
def openE (b : List UInt8) : Nat :=
  if sumOk b = false then 72 else if (takeP 4 b false).1 ≠ markB then 73 else if (readP b).2.2 = true ∨ buildE (readP b).1 ≠ 0 ∨ buildB (readP b).1 ≠ b then 73 else 0
theorem takeP_cap (n : Nat) (q : List UInt8) (s : Bool) (hn : n ≤ 8) : getN (takeP n q s).1 < 256 ^ n := Nat.lt_of_lt_of_le (getN_lt _) (Nat.pow_le_pow_right (by omega) (takeP_len' n q s))
/-- The sizes of what is read. -/
theorem entP_small (al q : List UInt8) (s : Bool) : (entP al q s).1.key.length ≤ 600 ∧ (entP al q s).1.value.length ≤ 65536 ∧ (entP al q s).1.seq < 9223372036854775808 := by
  unfold entP
  refine ⟨?_, ?_, ?_⟩
  · simp only
    split
    · simp
    · rw [List.length_append, List.length_take]
      have h1 := takeP_cap 1 q s (by omega)
      have h2 := takeP_cap 1 (takeP 1 q s).2.1 (takeP 1 q s).2.2 (by omega)
      have h3 := takeP_len' (getN (takeP 1 (takeP 1 q s).2.1 (takeP 1 q s).2.2).1)
      refine Nat.le_trans (Nat.add_le_add (Nat.min_le_left _ _) (h3 _ _)) ?_
      omega
  · simp only
    refine Nat.le_trans (takeP_len' _ _ _) ?_
    have h2 := takeP_cap 2
    exact Nat.le_of_lt (h2 _ _ (by omega))
  · simp only
    rw [IntKind.wrap_i64]
    omega
theorem entP_len (al q : List UInt8) (s : Bool) : (entP al q s).2.1.length ≤ q.length := by
  unfold entP
  simp only
  refine Nat.le_trans (takeP_le _ _ _) (Nat.le_trans (takeP_le _ _ _) (Nat.le_trans (takeP_le _ _ _) (Nat.le_trans (takeP_le _ _ _) (Nat.le_trans (takeP_le _ _ _) (Nat.le_trans (takeP_le _ _ _) (takeP_le _ _ _))))))
/-- Capacities of entries that are held. -/
theorem ownE_cap {w0 w : World} {F : SP} : ∀ {es : List En}, Sat w0 (OwnE es * F) w → ∀ e ∈ es, e.key.2.2.length ≤ e.key.2.1 ∧ e.key.2.1 ≤ maxLen
  | [], _ => by simp
  | e :: es, h => by
    have h0 : Sat w0 (Row 5 1 (slv' e.key) e.key.2.2.length (e.key.2.2.map bv) * (Row 5 1 (slv' e.value) e.value.2.2.length (e.value.2.2.map bv) * OwnE es) * F) w := h
    have h1 := h0.of (show _ = Row 5 1 (slv' e.key) e.key.2.2.length (e.key.2.2.map bv) * (Row 5 1 (slv' e.value) e.value.2.2.length (e.value.2.2.map bv) * (OwnE es * F)) by ac_rfl)
    intro x hx
    rcases List.mem_cons.1 hx with rfl | hx
    · obtain ⟨A, c, e1, k1, k2⟩ := h1.row_sl
      unfold slv' at e1
      injection e1 with e2 e3 e4
      rw [e4]
      exact ⟨k1, k2⟩
    · exact ownE_cap h1.right.right x hx
/-- A table that can be read. -/
structure TabR (w : World) (T : Nat) (es : List En) : Prop where
  box : ∃ A c g h n, w.cell? ⟨T, 0, none⟩ = some (.slice A es.length c) ∧ w.cell? ⟨T, 1, none⟩ = some (.pointer (some ⟨g, 0, none⟩)) ∧ RdV w A (es.flatMap enV) ∧ es.length ≤ c ∧ c ≤ maxLen ∧ Filt w g h n n (bitsB (es.map En.ent)) ∧ 8 ≤ n ∧ n ≤ 262144
  rd : EnsR w es
  cap : ∀ e ∈ es, e.key.2.2.length ≤ e.key.2.1 ∧ e.key.2.1 ≤ maxLen
  ok : buildE (es.map En.ent) = 0
theorem TabR.new {w w' : World} {T : Nat} {es : List En} (h : TabR w T es) (k : Chg No w w') : TabR w' T es := by
  obtain ⟨A, c, g, h1, n, a1, a2, a3, a4, a5, a6, a7⟩ := h.box
  exact ⟨⟨A, c, g, h1, n, k.cell a1 id, k.cell a2 id, a3.new k, a4, a5, a6.new k, a7⟩, fun e he => ⟨(h.rd e he).1.new k, (h.rd e he).2.new k⟩, h.cap, h.ok⟩
/-- What Open makes of bytes. -/
def Opened (b : List UInt8) (w : World) (x : Ending) (w' : World) : Prop :=
  (openE b ≠ 0 ∧ x = .returned (.tuple #[.pointer none, .int .i64 (openE b : Nat)]) ∧ Chg No w w') ∨
  (openE b = 0 ∧ ∃ T es, x = .returned (.tuple #[.pointer (some ⟨T, 0, none⟩), .int .i64 0]) ∧ es.map En.ent = (readP b).1 ∧ TabR w' T es ∧ w.heap.size ≤ T ∧ Chg No w w')
end Go.Proofs.Ytaoenbjfkahdjaa
namespace Go.Proofs.Ytaoenbjfkahdjaa
open Go.RowKit
set_option linter.unusedVariables false
set_option maxRecDepth 100000

theorem takeP_app {n : Nat} (a r : List UInt8) (h : a.length = n) : takeP n (a ++ r) false = (a, r, false) := by
  subst h
  rw [takeP_ok (by simp)]
  simp
theorem getN_one (b : UInt8) : getN [b] = b.toNat := by simp [getN]
theorem entP_entB (al : List UInt8) (e : Ent) (r : List UInt8) (hm : mayE e = true) (hs : e.seq < 9223372036854775808) (hal : al.length ≤ 128) : entP al (entB al e ++ r) false = (e, r, false) := by
  obtain ⟨h1, h2, h3, h4⟩ := mayE_iff.1 hm
  have hc := commonN_le al e.key
  obtain ⟨n, hn⟩ : ∃ n, commonN al e.key = n := ⟨_, rfl⟩
  have ht := commonN_take al e.key
  unfold entB
  rw [hn] at hc ht ⊢
  have e1 : [UInt8.ofNat n, UInt8.ofNat (e.key.length - n)] ++ (putB e.seq.toNat 8 ++ ([if e.dead then 1 else 0] ++ (putB e.value.length 2 ++ (e.key.drop n ++ e.value)))) ++ r
      = [UInt8.ofNat n] ++ ([UInt8.ofNat (e.key.length - n)] ++ (putB e.seq.toNat 8 ++ ([if e.dead then 1 else 0] ++ (putB e.value.length 2 ++ (e.key.drop n ++ (e.value ++ r)))))) := by simp
  rw [e1]
  have b1 : getN [UInt8.ofNat n] = n := by rw [getN_one, UInt8.toNat_ofNat', Nat.mod_eq_of_lt (by omega)]
  have b2 : getN [UInt8.ofNat (e.key.length - n)] = e.key.length - n := by rw [getN_one, UInt8.toNat_ofNat', Nat.mod_eq_of_lt (by omega)]
  have b3 : IntKind.i64.wrap (getN (putB e.seq.toNat 8) : Int) = e.seq := by
    rw [get_put, Nat.mod_eq_of_lt (by omega), IntKind.wrap_i64]
    omega
  have b4 : decide (getN [if e.dead then (1 : UInt8) else 0] = 1) = e.dead := by cases e.dead <;> decide
  have b5 : getN (putB e.value.length 2) = e.value.length := by rw [get_put, Nat.mod_eq_of_lt (by omega)]
  unfold entP
  simp only [takeP_app _ _ (List.length_singleton), takeP_app _ _ (putB_len _ _), b1, b2, b3, b4, b5]
  rw [decide_eq_false (by omega)]
  simp only [Bool.or_false]
  rw [takeP_app (n := e.key.length - n) _ _ (by simp)]
  simp only
  rw [takeP_app (n := e.value.length) _ _ rfl]
  simp only [Bool.false_eq_true, if_false]
  rw [ht, List.take_append_drop]
theorem aheadS_take {L : List Ent} {i : Nat} (h : i ≤ L.length) : aheadS (L.take i) = aheadK L i := by
  unfold aheadS aheadK
  rw [List.length_take, Nat.min_eq_left h]
  split
  · rfl
  · rw [List.getElem?_take, if_pos (by omega)]
    cases L[i - 1]? <;> rfl
theorem ahead_short {L : List Ent} (h : ∀ e ∈ L, e.key.length ≤ 128) (i : Nat) : (aheadK L i).length ≤ 128 := by
  unfold aheadK
  split
  · simp
  · split
    · rename_i e he; exact h e (List.mem_of_getElem? he)
    · simp
theorem buildE_may {L : List Ent} (h : buildE L = 0) : ∀ e ∈ L, mayE e = true := by
  intro e he
  unfold buildE at h
  split at h
  · cases h
  · split at h
    · cases h
    · rename_i h1
      cases hm : mayE e with
      | true => rfl
      | false => exact absurd (.inr (List.any_eq_true.2 ⟨e, he, by rw [hm]; rfl⟩)) h1
theorem buildE_key {L : List Ent} (h : buildE L = 0) : ∀ e ∈ L, e.key.length ≤ 128 := fun e he => (mayE_iff.1 (buildE_may h e he)).1
theorem buildE_few {L : List Ent} (h : buildE L = 0) : L.length ≤ 65536 := by
  unfold buildE at h
  split at h
  · cases h
  · split at h
    · cases h
    · rename_i h1
      rcases Nat.lt_or_ge 65536 L.length with h2 | h2
      · exact absurd (.inl h2) h1
      · exact h2
/-- The bytes of the entries from the i-th on. -/
def restB (L : List Ent) (i k : Nat) : List UInt8 := ((List.range' i k).map (entAt L)).flatten
theorem runP_rest (L : List Ent) (r : List UInt8) (hb : buildE L = 0) (hs : ∀ e ∈ L, e.seq < 9223372036854775808) : ∀ (k i : Nat), i + k = L.length → runP k (L.take i, restB L i k ++ r, false) = (L, r, false)
  | 0, i, h => by
    have e : L.take i = L := List.take_of_length_le (by omega)
    unfold runP restB
    rw [e]
    rfl
  | k + 1, i, h => by
    have hi : i < L.length := by omega
    have ih := runP_rest L r hb hs k (i + 1) (by omega)
    rw [runP_step _ rfl]
    have e2 : restB L i (k + 1) = entB (aheadK L i) L[i] ++ restB L (i + 1) k := by
      unfold restB
      rw [List.range'_succ, List.map_cons, List.flatten_cons]
      congr 1
      unfold entAt
      rw [List.getElem?_eq_getElem hi]
    have e3 : stepP (L.take i, restB L i (k + 1) ++ r, false) = (L.take (i + 1), restB L (i + 1) k ++ r, false) := by
      unfold stepP
      simp only
      rw [aheadS_take (by omega), e2, List.append_assoc, entP_entB _ _ _ (buildE_may hb _ (List.getElem_mem hi)) (hs _ (List.getElem_mem hi)) (ahead_short (buildE_key hb) i)]
      simp only
      rw [List.take_succ_eq_append_getElem hi]
    rw [e3, ih]
theorem bodyB_rest (L : List Ent) : bodyB L L.length = markB ++ (putB L.length 4 ++ restB L 0 L.length) := by
  unfold bodyB restB
  rw [List.range_eq_range', List.append_assoc]
theorem buildB_eq (L : List Ent) : ∃ r, buildB L = markB ++ (putB L.length 4 ++ (restB L 0 L.length ++ r)) := by
  unfold buildB allB
  simp only
  rw [bodyB_rest]
  refine ⟨idxB L L.length ++ (putB (bitsB L).length 4 ++ (bitsB L ++ (putB (markB ++ (putB L.length 4 ++ restB L 0 L.length)).length 4 ++ (putB (markB ++ (putB L.length 4 ++ restB L 0 L.length) ++ idxB L L.length).length 4 ++ putB (sumB (markB ++ (putB L.length 4 ++ restB L 0 L.length) ++ idxB L L.length ++ putB (bitsB L).length 4 ++ bitsB L ++ putB (markB ++ (putB L.length 4 ++ restB L 0 L.length)).length 4 ++ putB (markB ++ (putB L.length 4 ++ restB L 0 L.length) ++ idxB L L.length).length 4)) 4)))), ?_⟩
  simp only [List.append_assoc]
theorem readP_build {L : List Ent} (hb : buildE L = 0) (hs : ∀ e ∈ L, e.seq < 9223372036854775808) : (readP (buildB L)).1 = L ∧ (readP (buildB L)).2.2 = false := by
  obtain ⟨r, hr⟩ := buildB_eq L
  have hf := buildE_few hb
  have e : readP (buildB L) = (L, r, false) := by
    rw [hr]
    unfold readP
    simp only
    rw [takeP_app (n := 4) markB _ rfl]
    simp only
    rw [takeP_app _ _ (putB_len _ _)]
    simp only
    rw [get_put, Nat.mod_eq_of_lt (by omega)]
    exact runP_rest L r hb hs L.length 0 (by omega)
  rw [e]
  exact ⟨rfl, rfl⟩
theorem sumOk_build (L : List Ent) : sumOk (buildB L) = true := by
  unfold sumOk buildB
  rw [List.length_append, putB_len, Nat.add_sub_cancel, List.take_left, List.drop_left]
  simp
/-- What was laid opens. -/
theorem openE_build {L : List Ent} (hb : buildE L = 0) (hs : ∀ e ∈ L, e.seq < 9223372036854775808) : openE (buildB L) = 0 := by
  obtain ⟨h1, h2⟩ := readP_build hb hs
  unfold openE
  rw [if_neg (by rw [sumOk_build]; simp), if_neg, if_neg]
  · rw [h1, h2]
    simp [hb]
  · obtain ⟨r, hr⟩ := buildB_eq L
    rw [hr, takeP_app (n := 4) markB _ rfl]
    simp
theorem openE_zero {b : List UInt8} (h : openE b = 0) : buildE (readP b).1 = 0 ∧ b = buildB (readP b).1 ∧ sumOk b = true := by
  unfold openE at h
  split at h
  · cases h
  · rename_i h0
    split at h
    · cases h
    · split at h
      · cases h
      · rename_i h1
        simp only [not_or, Decidable.not_not] at h1
        exact ⟨h1.2.1, h1.2.2.symm, by simpa using h0⟩
theorem openE_sum {b : List UInt8} (h : sumOk b = false) : openE b = 72 := by unfold openE; rw [if_pos h]
/-- With a right sum there is no error but that of the form. -/
theorem openE_form {b : List UInt8} (h : sumOk b = true) (h0 : openE b ≠ 0) : openE b = 73 := by
  unfold openE at h0 ⊢
  rw [if_neg (by rw [h]; simp)] at h0 ⊢
  split
  · rfl
  · rename_i h1
    rw [if_neg h1] at h0
    split
    · rfl
    · rename_i h2
      rw [if_neg h2] at h0
      exact absurd rfl h0

/-! one bit turned -/
theorem crcS_inj {x y : Nat} (hx : x < 4294967296) (hy : y < 4294967296) (h : crcS x = crcS y) : x = y := by
  have t : ∀ z, z < 4294967296 → (z / 2).testBit 31 = false := fun z hz => Nat.testBit_lt_two_pow (by omega)
  have p : (3988292384 : Nat).testBit 31 = true := by decide
  unfold crcS at h
  split at h <;> split at h
  · have h2 := congrArg (· ^^^ 3988292384) h
    simp only [Nat.xor_assoc, Nat.xor_self, Nat.xor_zero] at h2
    omega
  · have h2 := congrArg (Nat.testBit · 31) h
    simp only [Nat.testBit_xor, t x hx, t y hy, p] at h2
    cases h2
  · have h2 := congrArg (Nat.testBit · 31) h
    simp only [Nat.testBit_xor, t x hx, t y hy, p] at h2
    cases h2
  · omega
theorem crcN_inj : ∀ (k : Nat) {x y : Nat}, x < 4294967296 → y < 4294967296 → crcN k x = crcN k y → x = y
  | 0, x, y, _, _, h => h
  | k + 1, x, y, hx, hy, h => by
    unfold crcN at h
    exact crcN_inj k hx hy (crcS_inj (crcN_lt hx k) (crcN_lt hy k) h)
theorem crcB_inj {c d : Nat} (b : UInt8) (hc : c < 4294967296) (hd : d < 4294967296) (h : crcB c b = crcB d b) : c = d := by
  have h1 := crcN_inj 8 (xor_lt32 hc (u8_lt32 b)) (xor_lt32 hd (u8_lt32 b)) h
  have h2 := congrArg (· ^^^ b.toNat) h1
  simpa only [Nat.xor_assoc, Nat.xor_self, Nat.xor_zero] using h2
theorem crcF_inj : ∀ (l : List UInt8) {c d : Nat}, c < 4294967296 → d < 4294967296 → l.foldl crcB c = l.foldl crcB d → c = d
  | [], c, d, _, _, h => h
  | b :: l, c, d, hc, hd, h => crcB_inj b hc hd (crcF_inj l (crcB_lt b hc) (crcB_lt b hd) h)
theorem crcF_set : ∀ (l : List UInt8) (c i : Nat) (hi : i < l.length) (x : UInt8), x ≠ l[i] → c < 4294967296 → (l.set i x).foldl crcB c ≠ l.foldl crcB c
  | b :: l, c, 0, _, x, hx, hc => fun h => by
    rw [List.set_cons_zero, List.foldl_cons, List.foldl_cons] at h
    have h1 := crcN_inj 8 (xor_lt32 hc (u8_lt32 x)) (xor_lt32 hc (u8_lt32 b)) (crcF_inj l (crcB_lt x hc) (crcB_lt b hc) h)
    have h2 := congrArg (c ^^^ ·) h1
    simp only [← Nat.xor_assoc, Nat.xor_self, Nat.zero_xor] at h2
    exact hx (UInt8.toNat.inj h2)
  | b :: l, c, i + 1, hi, x, hx, hc => by
    rw [List.set_cons_succ, List.foldl_cons, List.foldl_cons]
    exact crcF_set l _ i (by simpa using hi) x (by simpa using hx) (crcB_lt b hc)
theorem sumB_set {l : List UInt8} {i : Nat} (hi : i < l.length) {x : UInt8} (hx : x ≠ l[i]) : sumB (l.set i x) ≠ sumB l := by
  unfold sumB crcL
  intro h
  have h2 := congrArg (· ^^^ 4294967295) h
  simp only [Nat.xor_assoc, Nat.xor_self, Nat.xor_zero] at h2
  exact crcF_set l _ i hi x hx (by decide) h2
theorem putB4_inj {x y : Nat} (hx : x < 4294967296) (hy : y < 4294967296) (h : putB x 4 = putB y 4) : x = y := by
  have h1 := congrArg getN h
  rw [get_put, get_put, Nat.mod_eq_of_lt (by omega), Nat.mod_eq_of_lt (by omega)] at h1
  exact h1
/-- One byte that is another one: the sum is wrong. -/
theorem sumOk_set {b : List UInt8} {i : Nat} (hs : sumOk b = true) (hi : i < b.length) {x : UInt8} (hx : x ≠ b[i]) : sumOk (b.set i x) = false := by
  unfold sumOk at hs ⊢
  rw [Bool.and_eq_true, decide_eq_true_eq, decide_eq_true_eq] at hs
  obtain ⟨h4, hs⟩ := hs
  rw [List.length_set, Bool.and_eq_false_iff]
  right
  rw [decide_eq_false_iff_not]
  intro h
  by_cases hi4 : i < b.length - 4
  · rw [List.take_set, List.drop_set_of_lt hi4] at h
    have h2 := putB4_inj (sumB_lt _) (sumB_lt _) (h.trans hs.symm)
    refine sumB_set (l := b.take (b.length - 4)) (i := i) (by rw [List.length_take]; omega) ?_ h2
    rw [List.getElem_take]
    exact hx
  · rw [List.take_set_of_le (by omega), hs, List.drop_set, if_neg (by omega)] at h
    have h2 : (b.drop (b.length - 4))[i - (b.length - 4)]? = ((b.drop (b.length - 4)).set (i - (b.length - 4)) x)[i - (b.length - 4)]? := by rw [← h]
    rw [List.getElem?_set_self (by rw [List.length_drop]; omega), List.getElem?_drop, Nat.add_sub_cancel' (by omega), List.getElem?_eq_getElem hi] at h2
    injection h2 with h2
    exact hx h2.symm
end Go.Proofs.Ytaoenbjfkahdjaa
namespace Go.Proofs.Ytaoenbjfkahdjaa
open Go.RowKit
set_option linter.unusedVariables false
set_option maxRecDepth 100000

section
variable {key : List UInt8} {seq : Int} {L : List Ent}
def getL (key : List UInt8) (seq : Int) (L : List Ent) : Option Ent := match L.dropWhile (fun x => lessE x (seekE key seq)) with
  | x :: _ => if x.key = key then some x else none
  | [] => none
theorem get_list (key : List UInt8) (seq : Int) (ns : List Nd) : getE key seq ns = getL key seq ((absL ns).map (·.1)) := by
  have e : (absL ns).map (·.1) = ns.map fun n => n.e.ent := by unfold absL; rw [List.map_map]; rfl
  rw [e]
  have h : (ns.map fun n => n.e.ent).dropWhile (fun x => lessE x (seekE key seq)) = (behind (seekE key seq) ns).map fun n => n.e.ent := by
    unfold behind
    induction ns with
    | nil => rfl
    | cons n ns ih =>
      rw [List.map_cons, List.dropWhile_cons, List.dropWhile_cons]
      show (if lessE n.e.ent (seekE key seq) = true then _ else _) = List.map _ (if lessE n.e.ent (seekE key seq) = true then _ else _)
      split
      · exact ih (by unfold absL; rw [List.map_map]; rfl)
      · rfl
  unfold getE getL
  rw [h]
  cases behind (seekE key seq) ns <;> rfl
def plN (key : List UInt8) (seq : Int) (L : List Ent) : Nat := (L.takeWhile fun x => lessE x (seekE key seq)).length
def mtE (key : List UInt8) (seq : Int) (x : Ent) : Prop := x.key = key ∧ x.seq ≤ seq
def bst (key : List UInt8) (seq : Int) (L : List Ent) (k : Nat) : Int := if (getL key seq L).isSome = true ∧ plN key seq L < k then (plN key seq L : Int) else -1
theorem mt_not {x : Ent} (h : mtE key seq x) : lessE x (seekE key seq) = false := by
  cases hq : lessE x (seekE key seq) with
  | false => rfl
  | true =>
    have h2 : LTE x (seekE key seq) := hq
    rw [lte_iff] at h2
    rcases h2 with h2 | ⟨_, h2⟩
    · have h3 : Lib.compareBytes x.key key < 0 := h2
      rw [h.1, cb_refl] at h3
      omega
    · have h2 : seq < x.seq := h2
      have := h.2
      omega
theorem not_mt {x : Ent} (h : lessE x (seekE key seq) = false) (hk : x.key = key) : mtE key seq x := by
  refine ⟨hk, ?_⟩
  rcases Int.lt_or_le seq x.seq with h1 | h1
  · have h2 : LTE x (seekE key seq) := lte_iff.2 (.inr ⟨hk, h1⟩)
    unfold LTE at h2
    rw [h] at h2
    cases h2
  · exact h1
theorem split_at (f : Ent → Bool) (L : List Ent) : L = L.takeWhile f ++ L.dropWhile f := (List.takeWhile_append_dropWhile).symm
theorem tw_mem {f : Ent → Bool} : ∀ {L : List Ent} {x : Ent}, x ∈ L.takeWhile f → f x = true
  | [], _, h => by simp at h
  | y :: L, x, h => by
    rw [List.takeWhile_cons] at h
    split at h
    · rename_i hy
      rcases List.mem_cons.1 h with rfl | h
      · exact hy
      · exact tw_mem h
    · simp at h
/-- Ahead of the place all stand ahead. -/
theorem pl_low {k : Nat} (hk : k < L.length) (h : k < plN key seq L) : lessE L[k] (seekE key seq) = true := by
  have h1 : (L.takeWhile fun x => lessE x (seekE key seq))[k]'h ∈ L.takeWhile fun x => lessE x (seekE key seq) := List.getElem_mem _
  have h2 := tw_mem h1
  have h3 : L[k] = (L.takeWhile fun x => lessE x (seekE key seq))[k]'h := by
    have e := split_at (fun x => lessE x (seekE key seq)) L
    have h4 : L[k]? = (L.takeWhile fun x => lessE x (seekE key seq))[k]? := by
      conv => lhs; rw [e]
      rw [List.getElem?_append_left h]
    rw [List.getElem?_eq_getElem hk, List.getElem?_eq_getElem h] at h4
    exact Option.some.inj h4
  rw [h3]
  exact h2
theorem pl_at (h : plN key seq L < L.length) : ∃ s, L.dropWhile (fun x => lessE x (seekE key seq)) = L[plN key seq L] :: s ∧ lessE L[plN key seq L] (seekE key seq) = false := by
  have e := split_at (fun x => lessE x (seekE key seq)) L
  cases hd : L.dropWhile (fun x => lessE x (seekE key seq)) with
  | nil =>
    rw [hd, List.append_nil] at e
    have := congrArg List.length e
    unfold plN at h
    omega
  | cons x s =>
    have h2 : L[plN key seq L]? = some x := by
      obtain ⟨q, hq⟩ : ∃ q, q = plN key seq L := ⟨_, rfl⟩
      rw [← hq]
      have hq2 : (L.takeWhile fun x => lessE x (seekE key seq)).length = q := hq.symm
      conv => lhs; rw [e, hd]
      rw [List.getElem?_append_right (by omega), hq2]
      simp
    rw [List.getElem?_eq_getElem h] at h2
    have h2 := Option.some.inj h2
    have h3 := List.head?_dropWhile_not (fun x => lessE x (seekE key seq)) L
    rw [hd] at h3
    simp at h3
    exact ⟨s, by rw [h2], by rw [h2]; exact h3⟩
theorem get_pl (hs : L.Pairwise LTE) {k : Nat} (hk : k < L.length) (hm : mtE key seq L[k]) : plN key seq L ≤ k ∧ ∃ h : plN key seq L < L.length, getL key seq L = some L[plN key seq L] ∧ (plN key seq L < k → L[k].seq < L[plN key seq L].seq) := by
  have h1 : plN key seq L ≤ k := by
    rcases Nat.lt_or_ge k (plN key seq L) with q | q
    · have := pl_low hk q
      rw [mt_not hm] at this
      cases this
    · exact q
  refine ⟨h1, by omega, ?_⟩
  obtain ⟨s, e1, e2⟩ := pl_at (key := key) (seq := seq) (L := L) (by omega)
  have hkey : L[plN key seq L].key = key := by
    rcases Nat.eq_or_lt_of_le h1 with q | q
    · have : L[plN key seq L] = L[k] := by congr
      rw [this]; exact hm.1
    · have h2 := List.pairwise_iff_getElem.1 hs _ _ (by omega) hk q
      rw [lte_iff] at h2
      rcases h2 with h2 | ⟨h2, _⟩
      · exfalso
        have h3 : LTE L[plN key seq L] (seekE key seq) := lte_iff.2 (.inl (by have h4 := h2; rw [hm.1] at h4; exact h4))
        unfold LTE at h3
        rw [e2] at h3
        cases h3
      · rw [h2]; exact hm.1
  refine ⟨by unfold getL; rw [e1]; simp [hkey], fun q => ?_⟩
  have h2 := List.pairwise_iff_getElem.1 hs _ _ (by omega) hk q
  rw [lte_iff] at h2
  rcases h2 with h2 | ⟨_, h2⟩
  · exfalso; rw [hkey, hm.1, cb_refl] at h2; omega
  · exact h2
theorem bst_no (hs : L.Pairwise LTE) {k : Nat} (hk : k < L.length) (hm : ¬ mtE key seq L[k]) : bst key seq L (k + 1) = bst key seq L k := by
  unfold bst
  by_cases hp : plN key seq L = k
  · have : getL key seq L = none := by
      obtain ⟨s, e1, e2⟩ := pl_at (key := key) (seq := seq) (L := L) (by omega)
      unfold getL
      rw [e1]
      have : L[plN key seq L] = L[k] := by congr
      rw [this] at e2 ⊢
      simp only []
      rw [if_neg (fun e => hm (not_mt e2 e))]
    rw [this]
    simp
  · by_cases h : plN key seq L < k
    · have h1 : plN key seq L < k + 1 := by omega
      simp [h, h1]
    · have h1 : ¬ plN key seq L < k + 1 := by omega
      simp [h, h1]
theorem bst_cases (key : List UInt8) (seq : Int) (L : List Ent) (k : Nat) : bst key seq L k = -1 ∨ ∃ q : Nat, q < k ∧ q = plN key seq L ∧ bst key seq L k = q := by
  unfold bst
  split
  · rename_i h; exact .inr ⟨_, h.2, rfl, rfl⟩
  · exact .inl rfl
theorem bst_first (hs : L.Pairwise LTE) {k : Nat} (hk : k < L.length) (hm : mtE key seq L[k]) (hb : bst key seq L k = -1) : bst key seq L (k + 1) = k := by
  obtain ⟨h1, h2, h3, _⟩ := get_pl hs hk hm
  unfold bst at hb ⊢
  rw [h3] at hb ⊢
  have : ¬ plN key seq L < k := fun q => by rw [if_pos ⟨rfl, q⟩] at hb; omega
  rw [if_pos ⟨rfl, by omega⟩]
  omega
theorem bst_next (hs : L.Pairwise LTE) {k q : Nat} (hk : k < L.length) (hm : mtE key seq L[k]) (hq : q < k) (hp : q = plN key seq L) : ¬ L[q].seq < L[k].seq ∧ bst key seq L (k + 1) = q := by
  obtain ⟨h1, h2, h3, h4⟩ := get_pl hs hk hm
  subst hp
  have := h4 hq
  refine ⟨by omega, ?_⟩
  unfold bst
  rw [h3, if_pos ⟨rfl, by omega⟩]
theorem bst_end (key : List UInt8) (seq : Int) (L : List Ent) : (getL key seq L = none ∧ bst key seq L L.length = -1) ∨ ∃ h : plN key seq L < L.length, getL key seq L = some L[plN key seq L] ∧ bst key seq L L.length = (plN key seq L : Int) := by
  by_cases h : plN key seq L < L.length
  · obtain ⟨s, e1, e2⟩ := pl_at h
    by_cases hk : L[plN key seq L].key = key
    · have hg : getL key seq L = some L[plN key seq L] := by unfold getL; rw [e1]; simp [hk]
      exact .inr ⟨h, hg, by unfold bst; rw [hg, if_pos ⟨rfl, h⟩]⟩
    · have hg : getL key seq L = none := by unfold getL; rw [e1]; simp [hk]
      exact .inl ⟨hg, by unfold bst; rw [hg]; simp⟩
  · have hg : getL key seq L = none := by
      have e := split_at (fun x => lessE x (seekE key seq)) L
      have h1 := congrArg List.length e
      rw [List.length_append] at h1
      unfold plN at h
      have h2 : L.dropWhile (fun x => lessE x (seekE key seq)) = [] := List.eq_nil_of_length_eq_zero (by omega)
      unfold getL
      rw [h2]
    exact .inl ⟨hg, by unfold bst; rw [hg]; simp⟩
end
end Go.Proofs.Ytaoenbjfkahdjaa
namespace Go.Proofs.Ytaoenbjfkahdjaa
open Go.RowKit
set_option linter.unusedVariables false
set_option maxRecDepth 100000

/-- What a level tells. -/
def levE (i : Int) (ns : List Nd) : List Ent := if 0 ≤ i ∧ i < 8 then witE [] i.toNat ns else []
def levM (i : Int) (L : List Pr) : List Ent := if 0 ≤ i ∧ i < 8 then (L.filter fun p => decide (i < p.2)).map (·.1) else []
theorem lev_abs {ns : List Nd} (hok : NOk ns) (i : Int) : levE i ns = levM i (absL ns) := by
  unfold levE levM
  by_cases h : 0 ≤ i ∧ i < 8
  · rw [if_pos h, if_pos h]
    have hall : ∀ l : List Ent, l.takeWhile (inB []) = l := by
      intro l
      induction l with
      | nil => rfl
      | cons x l ih => rw [List.takeWhile_cons, show inB [] x = true from rfl, if_pos rfl, ih]
    unfold witE
    rw [hall]
    have hf : ns.filter (fun n => decide (i.toNat < n.v)) = ns.filter (fun n => decide (i < (absN n).2)) := by
      apply List.filter_congr
      intro n hn
      have := (hok.full n hn).1
      show decide (i.toNat < n.v) = decide (i < (n.h : Int))
      rw [this, Bool.eq_iff_iff]
      simp
      omega
    rw [hf]
    unfold absL
    rw [List.filter_map, List.map_map]
    rfl
  · rw [if_neg h, if_neg h]
theorem told_none (w : World) : ToldE w [] (.returned (.slice none 0 0)) w := ⟨[], none, 0, rfl, rfl, ((Sat.start w).row_nil _ 4).of (by rfl)⟩
/-- The same rows. -/
def alikeB (a b : List Ent) : Bool := decide (a.length = b.length) && (List.range a.length).all fun i => match a[i]?, b[i]? with | some x, some y => eqE x y | _, _ => true
theorem alike_yes (a b : List Ent) (hl : a.length = b.length) (h : ∀ i (h1 : i < a.length) (h2 : i < b.length), eqE a[i] b[i] = true) : alikeB a b = true := by
  unfold alikeB
  rw [decide_eq_true hl, Bool.true_and, List.all_eq_true]
  intro i hi
  have hi := List.mem_range.1 hi
  rw [List.getElem?_eq_getElem hi, List.getElem?_eq_getElem (by omega)]
  exact h i hi (by omega)
theorem alike_no (a b : List Ent) (hl : a.length = b.length) (i : Nat) (h1 : i < a.length) (h2 : i < b.length) (h : eqE a[i] b[i] = false) : alikeB a b = false := by
  cases hb : alikeB a b with
  | false => rfl
  | true =>
    unfold alikeB at hb
    rw [decide_eq_true hl, Bool.true_and, List.all_eq_true] at hb
    have := hb i (List.mem_range.2 h1)
    rw [List.getElem?_eq_getElem h1, List.getElem?_eq_getElem h2] at this
    simp only [] at this
    rw [h] at this
    cases this
theorem alike_len (a b : List Ent) (hl : ¬ a.length = b.length) : alikeB a b = false := by unfold alikeB; rw [decide_eq_false hl]; rfl
theorem alike_iff (a b : List Ent) : alikeB a b = true ↔ a = b := by
  constructor
  · intro h
    by_cases hl : a.length = b.length
    · apply List.ext_getElem hl
      intro i h1 h2
      cases he : eqE a[i] b[i] with
      | true => exact (eqE_iff _ _).1 he
      | false => rw [alike_no a b hl i h1 h2 he] at h; cases h
    · rw [alike_len a b hl] at h; cases h
  · intro h
    subst h
    exact alike_yes a a rfl fun i _ _ => (eqE_iff _ _).2 rfl
set_option maxHeartbeats 1000000 in
theorem alike_any (A B : Option Addr) (c d : Nat) (es fs : List En) (w : World) (h : RdV w A (es.flatMap enV)) (hr : EnsR w es) (k : RdV w B (fs.flatMap enV)) (kr : EnsR w fs) (hc : es.length ≤ c) (hm : c ≤ maxLen) (hd : fs.length ≤ d) (hn : d ≤ maxLen) :
    Calls Try.prog 19 #[.slice A es.length c, .slice B fs.length d] w fun e w' => e = .returned (.bool (alikeB (es.map En.ent) (fs.map En.ent))) ∧ Chg No w w' := by
  have HL := Lib.hid h
  have HR := Lib.hid hr
  have KL := Lib.hid k
  have KR := Lib.hid kr
  unfold maxLen at hm hn
  clear h hr k kr
  by_cases hlen : es.length = fs.length
  · have HY : Hid ((∀ i (h1 : i < es.length) (h2 : i < fs.length), eqE es[i].ent fs[i].ent = true) → alikeB (es.map En.ent) (fs.map En.ent) = true) := fun h => alike_yes _ _ (by simpa using hlen) fun i h1 h2 => by simpa using h i (by simpa using h1) (by simpa using h2)
    have HN : Hid (∀ i (h1 : i < es.length) (h2 : i < fs.length), eqE es[i].ent fs[i].ent = false → alikeB (es.map En.ent) (fs.map En.ent) = false) := fun i h1 h2 h => alike_no _ _ (by simpa using hlen) i (by simpa using h1) (by simpa using h2) (by simpa using h)
    have Hlen := Lib.hid hlen
    have hle1 : es.length ≤ fs.length := by omega
    have hle2 : fs.length ≤ es.length := by omega
    have hlenI : (es.length : Int) = fs.length := by omega
    have hb : ((es.length : Int) != fs.length) = false := by simp [hlen]
    clear hlen hlenI
    go_enter Try.func19, Try.ntmps19
    go_wp2_with fail
    clear hb
    go_loopw [5] (fun i wr => ∃ k : Nat, k ≤ es.length ∧ i = .int .i64 k ∧ Hid (Chg No w wr ∧ ∀ i (h : i < k) (h1 : i < es.length) (h2 : i < fs.length), eqE es[i].ent fs[i].ent = true)) (fun i _ => es.length - (intOf i).toNat)
    case atStart => exact ⟨0, by omega, rfl, Chg.refl _ _, fun i hi => by omega⟩
    case round =>
      obtain ⟨k, hk, rfl, HD⟩ := hrel
      by_cases hlt : k < es.length
      · have hlt2 : k < fs.length := by omega
        obtain ⟨b, o, rfl, hq⟩ := ents_at HL.out (by omega)
        obtain ⟨b', o', rfl, hq'⟩ := ents_at KL.out (by omega)
        obtain ⟨z0, z1, z2, z3⟩ := hq k hlt
        obtain ⟨y0, y1, y2, y3⟩ := hq' k hlt2
        have a0 := HD.out.1.cell z0 id; have a1 := HD.out.1.cell z1 id; have a2 := HD.out.1.cell z2 id; have a3 := HD.out.1.cell z3 id
        have b0 := HD.out.1.cell y0 id; have b1 := HD.out.1.cell y1 id; have b2 := HD.out.1.cell y2 id; have b3 := HD.out.1.cell y3 id
        unfold slv' at a0 a1 b0 b1
        have HI := Lib.hid HD.out.1
        have HLs := Lib.hid HD.out.2
        clear hq hq' z0 z1 z2 z3 y0 y1 y2 y3 HD
        go_wp2_with fail
        go_region_law (first
          | (go_simp; go_at_call 23; refine (eqE_any es[k] fs[k] _ ((HR.out _ (List.getElem_mem _)).new HI.out.drew) ((KR.out _ (List.getElem_mem _)).new HI.out.drew)).mono ?_; rintro e w5 ⟨rfl, k5⟩))
        all_goals
          have k6 : Hid (Chg No w w5) := HI.out.drew.tr k5
          cases hb : eqE es[k].ent fs[k].ent with
          | false =>
            have HQ : Hid (alikeB (es.map En.ent) (fs.map En.ent) = false) := HN.out k hlt hlt2 hb
            go_wp2_with fail
            go_ret
            exact ⟨by rw [HQ.out]; rfl, k6.out⟩
          | true =>
            go_wp2_with fail
            go_roundw
            · exact ⟨k + 1, by omega, by push_cast; rfl, k6.out, fun i hi h1 h2 => if e : i = k then by subst e; exact hb else HLs.out i (by omega) h1 h2⟩
            · simp [intOf]; omega
      · have HQ : Hid (alikeB (es.map En.ent) (fs.map En.ent) = true) := HY.out fun i h1 h2 => HD.out.2 i (by omega) h1 h2
        go_wp2_with fail
        go_ret
        exact ⟨by rw [HQ.out]; rfl, HD.out.1⟩
  · have HQ : Hid (alikeB (es.map En.ent) (fs.map En.ent) = false) := alike_len _ _ (by simpa using hlen)
    have hb : ((es.length : Int) != fs.length) = true := by simp; omega
    go_enter Try.func19, Try.ntmps19
    go_wp2_with fail
    go_ret
    exact ⟨by rw [HQ.out]; rfl, Chg.refl _ _⟩
end Go.Proofs.Ytaoenbjfkahdjaa
