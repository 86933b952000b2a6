/- Joined, as they were built one by one: Rol Map App Octet Crc OGet StrTwo. -/
import Derived.Maps.Keyed
import Derived.Maps.OwnOps
import Derived.Maps.OwnSet
import Derived.Maps.RangeWalk
import Derived.Laws.BitsAllLaws
import Derived.Test.YtaoenbjfkahdjaaQ01
namespace Go.Proofs.Ytaoenbjfkahdjaa
open Go.RowKit
set_option linter.unusedVariables false
set_option maxRecDepth 100000

/-- A slice of bytes: where it lies, its room, what it reads as. -/
abbrev Slc := Option Addr × Nat × List UInt8
/-- All of these may be read, for good. -/
def RoL (rs : List Slc) : SP := fun h => (∀ k x, h k = some x → x.1 = true) ∧ ∀ r ∈ rs, r.2.2 ≠ [] → ∃ b o cs t fr, r.1 = some ⟨b, o, none⟩ ∧ h b = some (true, .cells cs t fr) ∧ ∀ j (hj : j < r.2.2.length), cs[o + j]? = some (bv r.2.2[j])
section
variable {w0 w : World} {F : SP} {rs rs' : List Slc}
theorem rol_nil : RoL [] = fun h => ∀ k x, h k = some x → x.1 = true := by funext h; simp [RoL]
theorem rol_sub {h : Hp} (hr : RoL rs h) (hs : ∀ r ∈ rs', r ∈ rs) : RoL rs' h := ⟨hr.1, fun r hx => hr.2 r (hs r hx)⟩
theorem Sat.rol_sub (h : Sat w0 (RoL rs * F) w) (hs : ∀ r ∈ rs', r ∈ rs) : Sat w0 (RoL rs' * F) w := h.mono fun x ⟨a, f, h1, h2, h3, h4⟩ => ⟨a, f, h1, h2, Proofs.Ytaoenbjfkahdjaa.rol_sub h3 hs, h4⟩
theorem rol_dup (rs : List Slc) : RoL rs * RoL rs = RoL rs := by
  funext h
  refine propext ⟨?_, fun hh => ⟨h, h, fun k => ?_, funext fun k => ?_, hh, hh⟩⟩
  · rintro ⟨a, b, h1, rfl, ⟨h2, h3⟩, h4, h5⟩
    refine ⟨fun k x hx => ?_, fun r hr hx => ?_⟩
    · unfold Hp.un jn at hx
      cases ha : a k with
      | none => rw [ha] at hx; exact h4 k x hx
      | some y => rw [ha] at hx; injection hx with hx; subst hx; exact h2 k _ ha
    · obtain ⟨b', o, cs, t, fr, e, hb, hc⟩ := h3 r hr hx
      exact ⟨b', o, cs, t, fr, e, by unfold Hp.un; rw [hb]; rfl, hc⟩
  · cases hk : h k with
    | none => exact .inl rfl
    | some x => have := hh.1 k x hk; obtain ⟨q, o⟩ := x; cases this; exact .inr (.inr ⟨o, rfl, rfl⟩)
  · unfold Hp.un jn; cases h k <;> rfl
theorem rol_app (rs rs' : List Slc) : RoL rs * RoL rs' = RoL (rs ++ rs') := by
  funext h
  refine propext ⟨?_, fun hh => ?_⟩
  · rintro ⟨a, b, h1, rfl, ⟨h2, h3⟩, h4, h5⟩
    refine ⟨fun k x hx => ?_, fun r hr hx => ?_⟩
    · unfold Hp.un jn at hx
      cases ha : a k with
      | none => rw [ha] at hx; exact h4 k x hx
      | some y => rw [ha] at hx; injection hx with hx; subst hx; exact h2 k _ ha
    · rcases List.mem_append.1 hr with hr | hr
      · obtain ⟨b', o, cs, t, fr, e, hb, hc⟩ := h3 r hr hx
        exact ⟨b', o, cs, t, fr, e, by unfold Hp.un; rw [hb]; rfl, hc⟩
      · obtain ⟨b', o, cs, t, fr, e, hb, hc⟩ := h5 r hr hx
        refine ⟨b', o, cs, t, fr, e, ?_, hc⟩
        unfold Hp.un
        rcases h1 b' with q | q | ⟨ob, q1, q2⟩
        · rw [q, hb]; rfl
        · rw [q] at hb; cases hb
        · rw [q1, ← hb, q2]; rfl
  · have e := rol_dup (rs ++ rs')
    rw [← e] at hh
    obtain ⟨a, b, h1, h2, h3, h4⟩ := hh
    exact ⟨a, b, h1, h2, rol_sub h3 (fun r hr => List.mem_append_left _ hr), rol_sub h4 (fun r hr => List.mem_append_right _ hr)⟩
theorem Sat.rol (h : Sat w0 (RoL rs * F) w) {r : Slc} (hr : r ∈ rs) : Rd w r.1 r.2.2 := fun hx => by
  obtain ⟨_, h1, a, f, h2, rfl, ⟨ha, ha2⟩, hf⟩ := h.hp
  obtain ⟨b, o, cs, t, fr, e, hb, hc⟩ := ha2 r hr (by simpa using hx)
  refine ⟨b, o, e, fun j hj => ?_⟩
  have := (h1 b (true, .cells cs t fr) (by unfold Hp.un; rw [hb]; rfl)).1
  rw [cell_of_row w b (o + j) cs t fr this]
  simpa using hc j (by simpa using hj)
theorem Sat.rolNil (h : Sat w0 F w) (rs : List Slc) (hn : ∀ r ∈ rs, r.2.2 = []) : Sat w0 (RoL rs * F) w :=
  (h.of (emp_star F).symm).mono fun x ⟨a, f, h1, h2, h3, h4⟩ => ⟨a, f, h1, h2, ⟨fun k y hy => (by unfold Emp at h3; rw [h3] at hy; cases hy), fun r hr hx => absurd (hn r hr) hx⟩, h4⟩
theorem rb_rol (r : Slc) : Rb r.1 r.2.2 = RoL [r] := by
  funext h
  unfold Rb Ro RoL
  refine propext ⟨fun ⟨h1, h2⟩ => ⟨h1, fun q hq hx => ?_⟩, fun ⟨h1, h2⟩ => ⟨h1, fun hx => ?_⟩⟩
  · simp at hq
    subst hq
    obtain ⟨b, o, cs, t, fr, e, hb, hc⟩ := h2 (by simpa using hx)
    exact ⟨b, o, cs, t, fr, e, hb, fun j hj => by have := hc j (by simpa using hj); rwa [List.getElem_map] at this⟩
  · obtain ⟨b, o, cs, t, fr, e, hb, hc⟩ := h2 r (by simp) (by simpa using hx)
    exact ⟨b, o, cs, t, fr, e, hb, fun j hj => by rw [List.getElem_map]; exact hc j (by simpa using hj)⟩
theorem Sat.rol_add (h : Sat w0 (RoL rs * (RoL rs' * F)) w) : Sat w0 (RoL (rs ++ rs') * F) w := h.of (by rw [← star_assoc, rol_app])
theorem Sat.rol_split (h : Sat w0 (RoL rs * F) w) : Sat w0 (RoL rs * (RoL rs * F)) w := h.of (by rw [← star_assoc, rol_dup])
end

theorem Sat.allocAt {w0 w : World} {F : SP} {b : Nat} (h : Sat w0 F w) (t : TypeId) (cs : Array Value) (hb : b = w.heap.size) : Sat w0 (Pt b t cs * F) (w.alloc (.cells cs t)) := by subst hb; exact h.allocPt t cs
/-- A row that make has made. -/
theorem bytes_row {w0 w : World} {F : SP} {g n : Nat} (h : Sat w0 (Pt g 5 (noughts n) * F) w) (hn : n ≤ maxLen) : Sat w0 (Row 5 1 (.slice (some ⟨g, 0, none⟩) n n) (List.replicate n (0 : UInt8)).length ((List.replicate n (0 : UInt8)).map bv) * F) w := by
  have h1 := h.row_pt (n := n) (cap := n) (size := 1) (Nat.le_refl _) hn (by simp [noughts])
  have e : (noughts n).toList.take (n * 1) = (List.replicate n (0 : UInt8)).map bv := by
    unfold noughts
    rw [Nat.mul_one]
    exact List.take_of_length_le (by simp)
  rw [e] at h1
  rw [List.length_replicate]
  exact h1
theorem flat2 {α : Type} {f : α → List Value} (hf : ∀ x, (f x).length = 2) : ∀ (l : List α) (i j : Nat) (hi : i < l.length) (hj : j < 2), (l.flatMap f)[i * 2 + j]? = (f l[i])[j]?
  | [], i, j, hi, hj => by simp at hi
  | x :: l, 0, j, hi, hj => by
    rw [List.flatMap_cons, Nat.zero_mul, Nat.zero_add, List.getElem?_append_left (by rw [hf]; exact hj)]; rfl
  | x :: l, i + 1, j, hi, hj => by
    rw [List.flatMap_cons, List.getElem?_append_right (by rw [hf]; omega), hf]
    have := flat2 hf l i j (by simpa using hi) hj
    rw [show (i + 1) * 2 + j - 2 = i * 2 + j by omega, this]
    rfl
theorem flat2_len {α : Type} {f : α → List Value} (hf : ∀ x, (f x).length = 2) : ∀ (l : List α), (l.flatMap f).length = l.length * 2
  | [] => rfl
  | x :: l => by rw [List.flatMap_cons, List.length_append, hf, flat2_len hf l, List.length_cons]; omega
theorem flat2_set {α : Type} {f : α → List Value} (hf : ∀ x, (f x).length = 2) : ∀ (l : List α) (i : Nat) (x : α) (u v : Value), f x = [u, v] → i < l.length →
    ((l.flatMap f).toArray.setIfInBounds (i * 2) u).setIfInBounds (i * 2 + 1) v = ((l.set i x).flatMap f).toArray := by
  intro l i x u v hx hi
  apply Array.ext'
  apply List.ext_getElem?
  intro j
  have hl := flat2_len hf l
  have hl2 := flat2_len hf (l.set i x)
  rw [List.length_set] at hl2
  by_cases hj : j < l.length * 2
  · have h1 := flat2 hf l (j / 2) (j % 2) (by omega) (by omega)
    have h2 := flat2 hf (l.set i x) (j / 2) (j % 2) (by rw [List.length_set]; omega) (by omega)
    rw [show j / 2 * 2 + j % 2 = j by omega] at h1 h2
    simp only [List.setIfInBounds_toArray, List.getElem?_set, List.length_set, hl]
    rw [h2, h1, List.getElem_set]
    by_cases e : i = j / 2
    · rw [if_pos e, hx]
      rcases Nat.mod_two_eq_zero_or_one j with q | q
      · rw [if_neg (by omega), if_pos (by omega), if_pos (by omega), q]; rfl
      · rw [if_pos (by omega), if_pos (by omega), q]; rfl
    · rw [if_neg e, if_neg (by omega), if_neg (by omega)]
  · simp only [List.setIfInBounds_toArray]
    rw [List.getElem?_eq_none (by simp only [List.length_set]; omega), List.getElem?_eq_none (by omega)]
end Go.Proofs.Ytaoenbjfkahdjaa
namespace Go.Proofs.Ytaoenbjfkahdjaa
open Go.RowKit
set_option linter.unusedVariables false
set_option maxRecDepth 100000

/-- An element, as it is. -/
def heldR (v : Value) : Option (DataW Value × List MemPlace) := some (.held v, [])
/-- The datum D tells of each number what f tells. -/
def Says (D : DataW Value) (f : Int → Option Value) : Prop := ∀ i z, D.atKey (.int .i64 i) z = match f i with | some v => .held v | none => z
/-- Block b is a map of at most n entries that tells what f tells. -/
def MapP (P : Program) (k : TypeId) (b n : Nat) (f : Int → Option Value) : SP := fun h => ∃ es clock, Ow b (.map es clock) h ∧ Go.WideElems.Fit P k heldR es clock ∧ es.size ≤ n ∧ Says (.map ((es.toList.map (Go.WideElems.rg P k heldR)).foldr DataW.insert [])) f
def upd (f : Int → Option Value) (i : Int) (v : Value) : Int → Option Value := fun j => if j = i then some v else f j
section
variable {P : Program} {k t e : TypeId} {b n : Nat} {f : Int → Option Value} {w0 w w' : World} {F : SP} {D : DataW Value}
theorem Sat.map_cases (h : Sat w0 (MapP P k b n f * F) w) : ∃ es clock, Sat w0 (Ow b (.map es clock) * F) w ∧ Go.WideElems.Fit P k heldR es clock ∧ es.size ≤ n ∧ Says (.map ((es.toList.map (Go.WideElems.rg P k heldR)).foldr DataW.insert [])) f := by
  obtain ⟨c, x, h1, a, g, h2, h3, ⟨es, clock, h4, h5, h6, h7⟩, h8⟩ := h
  exact ⟨es, clock, ⟨c, x, h1, a, g, h2, h3, h4, h8⟩, h5, h6, h7⟩
theorem Sat.map_own (h : Sat w0 (MapP P k b n f * F) w) : ∃ D, w.ownsMap P k heldR b n D ∧ Says D f := by
  obtain ⟨es, clock, h1, h2, h3, h4⟩ := h.map_cases
  exact ⟨_, ⟨es, clock, h1.block, h2, h3, rfl⟩, h4⟩
theorem Sat.map_block (h : Sat w0 (MapP P k b n f * F) w) : ∃ o, Sat w0 (Ow b o * F) w := by
  obtain ⟨es, clock, h1, _⟩ := h.map_cases
  exact ⟨_, h1⟩
theorem Sat.mapI {es : Array MapEntry} {clock : Nat} (h : Sat w0 (Ow b (.map es clock) * F) w) (h5 : Go.WideElems.Fit P k heldR es clock) (h6 : es.size ≤ n)
    (h7 : Says (.map ((es.toList.map (Go.WideElems.rg P k heldR)).foldr DataW.insert [])) f) : Sat w0 (MapP P k b n f * F) w := by
  obtain ⟨c, x, h1, a, g, h2, h3, h4, h8⟩ := h
  exact ⟨c, x, h1, a, g, h2, h3, ⟨es, clock, h4, h5, h6, h7⟩, h8⟩
theorem Sat.map_turn (h : Sat w0 (MapP P k b n f * F) w) {w' : World} {n' : Nat} {f' : Int → Option Value} (k' : w.mapTurned w' b) (ho : w'.ownsMap P k heldR b n' D) (hs : Says D f') : Sat w0 (MapP P k b n' f' * F) w' := by
  obtain ⟨o, h1⟩ := h.map_block
  obtain ⟨es, clock, hb, hf, hn, rfl⟩ := ho
  refine Sat.mapI (h1.turn ?_ hb) hf hn hs
  exact (Chg.of_grown k'.grown).mono fun i _ hi => Option.some.inj hi
theorem says_none : Says (.map []) (fun _ => none) := fun i z => rfl
theorem Sat.map_new (h : Sat w0 F w) : Sat w0 (MapP P k w.heap.size 0 (fun _ => none) * F) (w.alloc (.map #[] 0)) := by
  obtain ⟨es, clock, hb, hf, hn, hd⟩ := World.ownsMap_made (H := Value) w P k heldR
  have h1 := h.alloc (.map #[] 0)
  have hb' := h1.block
  rw [hb] at hb'
  injection hb' with hb'
  injection hb' with e1 e2
  subst e1; subst e2
  exact Sat.mapI h1 hf hn (by simpa using says_none)
theorem fit_none (P : Program) (k : TypeId) (clock : Nat) : Go.WideElems.Fit P k heldR #[] clock := by
  refine ⟨by simp, ?_, by simp⟩
  constructor <;> simp
/-- clear. -/
theorem Sat.map_clear (h : Sat w0 (MapP P k b n f * F) w) (ht : P.underlying t = some (.map k e)) (ty : TypeId) : ∃ w', (Builtin.clear_ #[t] ty #[.map (some b)]).run P w = .ok (.tuple #[]) w' ∧ Sat w0 (MapP P k b 0 (fun _ => none) * F) w' ∧ Chg (One b) w w' := by
  obtain ⟨es, clock, h1, h2, h3, h4⟩ := h.map_cases
  have hb := h1.block
  have ho : (ChangeMaps.setBlock w b (.map #[] clock)).ownsMap P k heldR b 0 (.map []) := ⟨#[], clock, ChangeMaps.heap_setBlock_same hb _, fit_none _ _ _, by simp, by simp⟩
  have hk : w.mapTurned (ChangeMaps.setBlock w b (.map #[] clock)) b := ⟨es, clock, _, _, hb, rfl⟩
  refine ⟨_, ?_, h.map_turn hk ho says_none, (Chg.of_grown hk.grown).mono fun i _ hi => Option.some.inj hi⟩
  simp [Builtin.clear_, run_underlying ht, MapKept.run_getObj_map hb, MapKept.run_setObj_map (P := P) (.map #[] clock) hb, Result.andThen, ChangeMaps.setBlock]
theorem wf_i64 {i : Int} (h : -9223372036854775808 ≤ i ∧ i ≤ 9223372036854775807) : (Lit.int .i64 i).wf = true := by
  simp only [Lit.wf, Bool.and_eq_true, decide_eq_true_iff]
  exact h
/-- v, ok := m[i] -/
theorem Sat.map_look (h : Sat w0 (MapP P k b n f * F) w) (hk : P.underlying k = some (.int .i64)) (ht : P.underlying t = some (.map k e)) {z : Value} (hz : (zeroValue e).run P w = .ok z w) (i : Int) (hi : -9223372036854775808 ≤ i ∧ i ≤ 9223372036854775807) :
    (Instr.lookup t (.map (some b)) (.int .i64 i) true).run P w = .ok (.tuple #[(f i).getD z, .bool (f i).isSome]) w := by
  obtain ⟨D, ho, hs⟩ := h.map_own
  obtain ⟨v, ps, h1, h2⟩ := ho.look_ok (Maps.int_keyed hk) ht hz (zd := .held z) (zp := []) rfl (Maps.keyOf_int_mk hk (wf_i64 hi))
  rw [h1]
  unfold heldR at h2
  injection h2 with h2
  injection h2 with h2 _
  have h3 := hs i (.held z)
  cases hf : f i with
  | none =>
    rw [hf] at h3
    rw [← h2] at h3
    injection h3 with h3
    subst h3
    have : Maps.has D (.int .i64 i) = false := Maps.has_false_of_atKey fun z => by have := hs i z; rw [hf] at this; exact this
    rw [this]
    rfl
  | some u =>
    rw [hf] at h3
    rw [← h2] at h3
    injection h3 with h3
    subst h3
    have : Maps.has D (.int .i64 i) = true := Maps.has_true_of_atKey (y := .held v) fun z => by have := hs i z; rw [hf] at this; exact this
    rw [this]
    rfl
/-- m[i] = v -/
theorem Sat.map_store (h : Sat w0 (MapP P k b n f * F) w) (hk : P.underlying k = some (.int .i64)) (ht : P.underlying t = some (.map k e)) (i : Int) (hi : -9223372036854775808 ≤ i ∧ i ≤ 9223372036854775807) (v : Value) (hn : n < maxLen) :
    ∃ w', (Instr.mapUpdate t (.map (some b)) (.int .i64 i) v).run P w = .ok () w' ∧ Sat w0 (MapP P k b (n + 1) (upd f i v) * F) w' ∧ Chg (One b) w w' := by
  obtain ⟨D, ho, hs⟩ := h.map_own
  obtain ⟨w', h1, h2, h3⟩ := ho.store (Maps.int_keyed hk) ht hn (Maps.keyOf_int_mk hk (wf_i64 hi)) (val := v) (d := .held v) (ps := []) rfl
  refine ⟨w', h1, h.map_turn h3 h2 fun j z => ?_, (Chg.of_grown h3.grown).mono fun i _ hi => Option.some.inj hi⟩
  unfold upd
  by_cases e : j = i
  · subst e
    rw [if_pos rfl]
    exact Maps.atKey_put_same (ho.isMap) (by simp [WideAt.IsKeyLit]) _ _
  · rw [if_neg e]
    rw [Maps.atKey_put_other (fun q => e (by injection q))]
    exact hs j z
end
end Go.Proofs.Ytaoenbjfkahdjaa
namespace Go.Proofs.Ytaoenbjfkahdjaa
open Go.RowKit
set_option linter.unusedVariables false
set_option maxRecDepth 100000

section
variable {P : Program} {w0 w : World} {F : SP} {ops : Array Oper} {o : Oper} {a : Act}
theorem Sat.row_sl {e : TypeId} {size n : Nat} {v : Value} {xs : List Value} (h : Sat w0 (Row e size v n xs * F) w) : ∃ A c, v = .slice A n c ∧ n ≤ c ∧ c ≤ maxLen := by
  obtain ⟨_, ⟨e1, e2, _⟩ | ⟨g, cap, cur, e1, h1, h2, _⟩⟩ := h.row_cases
  · exact ⟨none, 0, by rw [e1, e2], by omega, Nat.zero_le _⟩
  · exact ⟨_, _, e1, h1, h2⟩
/-- A row that is not empty: its head, its cells. -/
theorem Sat.row_at {e : TypeId} {size n : Nat} {A : Option Addr} {c : Nat} {xs : List Value} (h : Sat w0 (Row e size (.slice A n c) n xs * F) w) (hn : 0 < n) :
    ∃ g, A = some ⟨g, 0, none⟩ ∧ ∀ j (hj : j < xs.length), w.cell? ⟨g, j, none⟩ = some xs[j] := by
  obtain ⟨hl, ⟨_, e2, _⟩ | ⟨g, cap, cur, e1, h1, h2, h3, h4, h5⟩⟩ := h.row_cases
  · omega
  · injection e1 with e1 _ e3
    refine ⟨g, e1, fun j hj => ?_⟩
    rw [h5.cell]
    have h6 : xs[j]? = some xs[j] := List.getElem?_eq_getElem hj
    rw [← h6, ← h4, List.getElem?_take, if_pos (by omega)]
    simp
theorem Sat.row_setj {e : TypeId} {size n c g j : Nat} {xs : List Value} (h : Sat w0 (Row e size (.slice (some ⟨g, 0, none⟩) n c) n xs * F) w) (u : Value) :
    Sat w0 (Row e size (.slice (some ⟨g, 0, none⟩) n c) n (xs.set j u) * F) (w.setCell ⟨g, j, none⟩ u) := by
  obtain ⟨hl, ⟨e1, e2, _⟩ | ⟨g', cap, cur, e1, h1, h2, h3, h4, h5⟩⟩ := h.row_cases
  · cases e1
  · injection e1 with e1 _ e3
    injection e1 with e1
    injection e1 with e1
    subst e1; subst e3
    have h6 := (h5.set j u).row_pt (n := n) (cap := c) (size := size) h1 h2 (by simpa using h3)
    have e : (cur.setIfInBounds j u).toList.take (n * size) = xs.set j u := by rw [Array.toList_setIfInBounds, List.take_set, h4]
    rwa [e] at h6
theorem Sat.row_free {e : TypeId} {size n c g : Nat} {xs : List Value} (h : Sat w0 (Row e size (.slice (some ⟨g, 0, none⟩) n c) n xs * F) w) (j : Nat) : w.frozen? ⟨g, j, none⟩ = false := by
  obtain ⟨hl, ⟨e1, e2, _⟩ | ⟨g', cap, cur, e1, h1, h2, h3, h4, h5⟩⟩ := h.row_cases
  · cases e1
  · injection e1 with e1 _ e3
    injection e1 with e1
    injection e1 with e1
    subst e1
    exact h5.frozen j
theorem Sat.row_cell {e : TypeId} {size n c g : Nat} {xs : List Value} (h : Sat w0 (Row e size (.slice (some ⟨g, 0, none⟩) n c) n xs * F) w) {j : Nat} (hj : j < xs.length) : w.cell? ⟨g, j, none⟩ = some xs[j] := by
  obtain ⟨hl, ⟨e1, e2, _⟩ | ⟨g', cap, cur, e1, h1, h2, h3, h4, h5⟩⟩ := h.row_cases
  · cases e1
  · injection e1 with e1 _ e3
    injection e1 with e1
    injection e1 with e1
    subst e1
    rw [h5.cell]
    have h6 : xs[j]? = some xs[j] := List.getElem?_eq_getElem hj
    rw [← h6, ← h4, List.getElem?_take, if_pos (by omega)]
    simp
theorem run_appS (t ty e : TypeId) (i : TypeInfo) (z : Value) (size bytes : Nat) (ht : P.underlying t = some (.slice e)) (hi : P.info? e = some i) (hz : i.zero = some z)
    (hsize : i.size = size) (hby : i.bytes = bytes) (hzs : z.cells.size = size) (hsz : 0 < size)
    (v : Value) (n : Nat) (xs : List Value) (hS : Sat w0 (Row e size v n xs * F) w)
    (A : Option Addr) (m c : Nat) (news : List Value) (hr : RdV w A news) (hm : news.length = m * size) (h1 : ∀ u ∈ news, u.oneCell' = true)
    (h63 : n + m ≤ maxLen) (hbytes : (n + m) * bytes ≤ 140737488355328) :
    ∃ A' c' w', (Builtin.append_ #[t, t] ty #[v, .slice A m c]).run P w = .ok (.slice A' (n + m) c') w' ∧ Sat w0 (Row e size (.slice A' (n + m) c') (n + m) (xs ++ news) * F) w' := by
  obtain ⟨v', w', hrun, h2⟩ := run_app (P := P) w0.heap.size t ty e i z size bytes ht hi hz hsize hby hzs hsz v n xs hS.row_own A m c news hr hm h1 h63 hbytes hS.size
  have h3 := hS.appd h2
  obtain ⟨A', c', rfl, _⟩ := h3.row_sl
  exact ⟨A', c', w', hrun, h3⟩
theorem wpList_appS {rest : List Oper} {Q : Exit → Act → World → Prop} (hgd : o.guard = none) (s x : Operand) (t : TypeId)
    (ho : o.op = .call { callee := .builtin .append, args := #[s, x], argTypes := #[t, t] })
    (e : TypeId) (i : TypeInfo) (z : Value) (size bytes : Nat) (ht : P.underlying t = some (.slice e)) (hi : P.info? e = some i) (hz : i.zero = some z)
    (hsize : i.size = size) (hby : i.bytes = bytes) (hzs : z.cells.size = size) (hsz : 0 < size)
    (v : Value) (n : Nat) (xs : List Value) (hs : a.eval s = v) (w0 : World) (F : SP) (hS : Sat w0 (Row e size v n xs * F) w)
    (A : Option Addr) (m c : Nat) (news : List Value) (hx : a.eval x = .slice A m c) (hr : RdV w A news) (hm : news.length = m * size) (h1 : ∀ u ∈ news, u.oneCell' = true)
    (h63 : n + m ≤ maxLen) (hbytes : (n + m) * bytes ≤ 140737488355328)
    (h : ∀ A' c' w', Sat w0 (Row e size (.slice A' (n + m) c') (n + m) (xs ++ news) * F) w' → wpList P ops Q rest (a.put o.dst (.slice A' (n + m) c')) w') : wpList P ops Q (o :: rest) a w := by
  refine wpList_plain hgd fun K hK => ?_
  obtain ⟨A', c', w', hrun, h2⟩ := run_appS (P := P) t o.type e i z size bytes ht hi hz hsize hby hzs hsz v n xs hS A m c news hr hm h1 h63 hbytes
  unfold Oper.wp execOp
  simp only [ho, resolve, invoke, builtin, Sem.run_bind, Sem.run_pure, Result.andThen_ok, List.map_toArray, List.map_cons, List.map_nil, hs, hx, hrun]
  exact hK _ _ (h _ _ _ h2)
theorem step_appS {K : Act → World → Prop} {Q : Exit → Act → World → Prop} {E : Prop} (hgd : o.guard = none) (s x : Operand) (t : TypeId)
    (ho : o.op = .call { callee := .builtin .append, args := #[s, x], argTypes := #[t, t] })
    (e : TypeId) (i : TypeInfo) (z : Value) (size bytes : Nat) (ht : P.underlying t = some (.slice e)) (hi : P.info? e = some i) (hz : i.zero = some z)
    (hsize : i.size = size) (hby : i.bytes = bytes) (hzs : z.cells.size = size) (hsz : 0 < size)
    (v : Value) (n : Nat) (xs : List Value) (hs : a.eval s = v) (w0 : World) (F : SP) (hS : Sat w0 (Row e size v n xs * F) w)
    (A : Option Addr) (m c : Nat) (news : List Value) (hx : a.eval x = .slice A m c) (hr : RdV w A news) (hm : news.length = m * size) (h1 : ∀ u ∈ news, u.oneCell' = true)
    (h63 : n + m ≤ maxLen) (hbytes : (n + m) * bytes ≤ 140737488355328)
    (h : ∀ A' c' w', Sat w0 (Row e size (.slice A' (n + m) c') (n + m) (xs ++ news) * F) w' → K (a.put o.dst (.slice A' (n + m) c')) w') :
    if Region.wanted o (yielded ops a.tmps) = true then Oper.wp P o a w K Q else E := by
  have hw : Region.wanted o (yielded ops a.tmps) = true := by simp [Region.wanted, hgd]
  rw [if_pos hw]
  obtain ⟨A', c', w', hrun, h2⟩ := run_appS (P := P) t o.type e i z size bytes ht hi hz hsize hby hzs hsz v n xs hS A m c news hr hm h1 h63 hbytes
  unfold Oper.wp execOp
  simp only [ho, resolve, invoke, builtin, Sem.run_bind, Sem.run_pure, Result.andThen_ok, List.map_toArray, List.map_cons, List.map_nil, hs, hx, hrun]
  exact h _ _ _ h2
/-- What append(x, one) adds lies in a block that has just been laid. -/
theorem lit_rdv (w : World) (cs : Array Value) (t : TypeId) : RdV (w.alloc (.cells cs t)) (some ⟨w.heap.size, 0, none⟩) cs.toList := RdV.lit w cs t (0, 0)
end
end Go.Proofs.Ytaoenbjfkahdjaa
namespace Go.Proofs.Ytaoenbjfkahdjaa
open Go.RowKit
set_option linter.unusedVariables false
set_option maxRecDepth 100000

def byteAt (x w i : Nat) : UInt8 := UInt8.ofNat (x / 256 ^ (w - 1 - i) % 256)
/-- The lowest w bytes of a number, the highest of them first. -/
def putB (x w : Nat) : List UInt8 := (List.range w).map (byteAt x w)
theorem putB_len (x w : Nat) : (putB x w).length = w := by simp [putB]
/-- Bytes in new memory. -/
def NewB (w0 : World) (F : SP) (l : List UInt8) (e : Ending) (w' : World) : Prop := ∃ A c, e = .returned (.slice A l.length c) ∧ l.length ≤ c ∧ c ≤ maxLen ∧ Sat w0 (Row 5 1 (.slice A l.length c) l.length (l.map bv) * F) w'
theorem info_u8o : (Try.prog.info? 5).map (fun i => (i.zero, i.size, i.bytes)) = some (some (.int .u8 0), 1, 1) := by kernel_rfl
theorem run_make_o (n : Nat) (h0 : 1 ≤ n) (hn : n ≤ 8) (W : World) : (Instr.makeSlice 32 (.int .i64 (n : Int)) (.int .i64 (n : Int))).run Try.prog W =
    .ok (.slice (some ⟨W.heap.size, 0, none⟩) n n) (W.alloc (.cells (madeCells #[.int .u8 0] n) 5)) := by
  obtain ⟨i0, hi, hz0, hz1, hz2⟩ := info_parts info_u8o
  have hr := run_make (P := Try.prog) W 32 5 i0 _ Try.underlying32 hi hz0 .i64 .i64 n n (by omega) (by omega) (by rw [hz2]; omega) (by omega)
  have hc : (Value.int .u8 0).cells = #[.int .u8 0] := rfl
  simpa [hz1, hc] using hr
set_option maxHeartbeats 1000000 in
theorem oput_any (x n : Nat) (hx : x < 18446744073709551616) (h0 : 1 ≤ n) (hn : n ≤ 8) (w0 w : World) (F : SP) (h : Sat w0 F w) :
    Calls Try.prog 58 #[.int .u64 (x : Int), .int .i64 (n : Int)] w (NewB w0 F (putB x n)) := by
  have hmk := run_make_o n h0 hn
  have H0 := Lib.hid (h.allocPt 5 (madeCells #[.int .u8 0] n))
  have h1 : ¬ (n : Int) < 1 := by omega
  have h8 : ¬ (8 : Int) < n := by omega
  obtain ⟨g, hg⟩ : ∃ g, g = w.heap.size := ⟨_, rfl⟩
  have HG := Lib.hid hg
  rw [← hg] at H0
  clear h hg
  go_enter Try.func58, Try.ntmps58
  go_wp2_with fail
  rw [← HG.out]
  go_loopw [0, 6] (fun xv iv wr => ∃ k i : Nat, k ≤ n ∧ k + i = n ∧ xv = .int .u64 ((x / 256 ^ k : Nat) : Int) ∧ iv = .int .i64 ((i : Int) - 1) ∧ Hid (∃ cur : Array Value, cur.size = n ∧ (∀ j, i ≤ j → j < n → cur[j]? = some (bv (byteAt x n j))) ∧ Sat w0 (Pt g 5 cur * F) wr)) (fun _ iv _ => (intOf iv + 1).toNat)
  case atStart => exact ⟨0, n, by omega, by omega, by simp, by simp, _, by simp [madeCells], fun j h2 h3 => by omega, H0.out⟩
  case round =>
    obtain ⟨k, i, hk, hki, rfl, rfl, HD⟩ := hrel
    rcases i with _ | i
    · go_wp2_with fail
      go_ret
      obtain ⟨cur, hc1, hc2, hs⟩ := HD.out
      have h9 := Sat.row_pt (n := n) (cap := n) (size := 1) hs (Nat.le_refl _) (by unfold maxLen; omega) (by omega)
      refine ⟨some ⟨g, 0, none⟩, n, by rw [putB_len]; rfl, by rw [putB_len]; exact Nat.le_refl _, by unfold maxLen; omega, h9.of ?_⟩
      rw [putB_len]
      congr 2
      apply List.ext_getElem?
      intro j
      rw [Nat.mul_one, List.getElem?_take]
      by_cases hj : j < n
      · rw [if_pos hj, Array.getElem?_toList, hc2 j (by omega) hj]
        simp [putB, hj]
      · rw [if_neg hj]
        simp [putB, hj]
    · obtain ⟨cur, hc1, hc2, hs⟩ := HD.out
      obtain ⟨Y, hY⟩ : ∃ Y, Y = x / 256 ^ k := ⟨_, rfl⟩
      have hYb : Y < 18446744073709551616 := by rw [hY]; exact Nat.lt_of_le_of_lt (Nat.div_le_self _ _) hx
      have hi : i < n := by omega
      obtain ⟨v0, c0⟩ : ∃ v0, wr.cell? ⟨g, i, none⟩ = some v0 := ⟨cur[i], by rw [hs.cell, Array.getElem?_eq_getElem (by omega)]⟩
      have f0 := hs.frozen i
      have HB : Hid (bv (byteAt x n i) = .int .u8 ((Y : Int) % 256)) := by
        unfold bv byteAt
        rw [show n - 1 - i = k by omega, ← hY, UInt8.toNat_ofNat', Nat.mod_mod]
        rw [show ((Y % 256 : Nat) : Int) = (Y : Int) % 256 by omega]
        rfl
      have HQ : Hid (((Y / 256 : Nat) : Int) = ((x / 256 ^ (k + 1) : Nat) : Int)) := by
        unfold Hid
        rw [hY, Nat.div_div_eq_div_mul, Nat.pow_succ]
      have HN : Hid (∃ cur' : Array Value, cur'.size = n ∧ (∀ j, i ≤ j → j < n → cur'[j]? = some (bv (byteAt x n j))) ∧ Sat w0 (Pt g 5 cur' * F) (wr.setCell ⟨g, i, none⟩ (.int .u8 ((Y : Int) % 256)))) := by
        refine ⟨cur.setIfInBounds i (.int .u8 ((Y : Int) % 256)), by simp [hc1], fun j h2 h3 => ?_, hs.set i _⟩
        by_cases e : i = j
        · subst e
          rw [Array.getElem?_setIfInBounds_self_of_lt (by omega), HB.out]
        · rw [Array.getElem?_setIfInBounds_ne e]
          exact hc2 j (by omega) h3
      have e2 : ((i + 1 : Nat) : Int) - 1 = (i : Int) := by omega
      rw [← hY, e2]
      have e3 : (i : Int) < n := by omega
      clear hY hc1 hc2 hs HD e2
      go_wp2_with fail
      go_roundw
      · exact ⟨k + 1, i, by omega, by omega, by rw [← HQ.out, show ((Y / 256 : Nat) : Int) = (Y : Int) / 256 by omega], rfl, HN.out⟩
      · simp [intOf] <;> omega
set_option maxHeartbeats 1000000 in
theorem rput1_any (x n : Nat) (hx : x < 18446744073709551616) (h0 : 1 ≤ n) (hn : n ≤ 8) (w0 w : World) (F : SP) (h : Sat w0 F w) :
    Calls Try.prog 99 #[.int .u64 (x : Int), .int .i64 (n : Int)] w (NewB w0 F (putB x n)) := by
  have hmk := run_make_o n h0 hn
  have H0 := Lib.hid (h.allocPt 5 (madeCells #[.int .u8 0] n))
  have h1 : ¬ (n : Int) < 1 := by omega
  have h8 : ¬ (8 : Int) < n := by omega
  obtain ⟨g, hg⟩ : ∃ g, g = w.heap.size := ⟨_, rfl⟩
  have HG := Lib.hid hg
  rw [← hg] at H0
  clear h hg
  go_enter Try.func99, Try.ntmps99
  go_wp2_with fail
  rw [← HG.out]
  go_loopw [0, 6] (fun xv iv wr => ∃ k i : Nat, k ≤ n ∧ k + i = n ∧ xv = .int .u64 ((x / 256 ^ k : Nat) : Int) ∧ iv = .int .i64 ((i : Int) - 1) ∧ Hid (∃ cur : Array Value, cur.size = n ∧ (∀ j, i ≤ j → j < n → cur[j]? = some (bv (byteAt x n j))) ∧ Sat w0 (Pt g 5 cur * F) wr)) (fun _ iv _ => (intOf iv + 1).toNat)
  case atStart => exact ⟨0, n, by omega, by omega, by simp, by simp, _, by simp [madeCells], fun j h2 h3 => by omega, H0.out⟩
  case round =>
    obtain ⟨k, i, hk, hki, rfl, rfl, HD⟩ := hrel
    rcases i with _ | i
    · go_wp2_with fail
      go_ret
      obtain ⟨cur, hc1, hc2, hs⟩ := HD.out
      have h9 := Sat.row_pt (n := n) (cap := n) (size := 1) hs (Nat.le_refl _) (by unfold maxLen; omega) (by omega)
      refine ⟨some ⟨g, 0, none⟩, n, by rw [putB_len]; rfl, by rw [putB_len]; exact Nat.le_refl _, by unfold maxLen; omega, h9.of ?_⟩
      rw [putB_len]
      congr 2
      apply List.ext_getElem?
      intro j
      rw [Nat.mul_one, List.getElem?_take]
      by_cases hj : j < n
      · rw [if_pos hj, Array.getElem?_toList, hc2 j (by omega) hj]
        simp [putB, hj]
      · rw [if_neg hj]
        simp [putB, hj]
    · obtain ⟨cur, hc1, hc2, hs⟩ := HD.out
      obtain ⟨Y, hY⟩ : ∃ Y, Y = x / 256 ^ k := ⟨_, rfl⟩
      have hYb : Y < 18446744073709551616 := by rw [hY]; exact Nat.lt_of_le_of_lt (Nat.div_le_self _ _) hx
      have hi : i < n := by omega
      obtain ⟨v0, c0⟩ : ∃ v0, wr.cell? ⟨g, i, none⟩ = some v0 := ⟨cur[i], by rw [hs.cell, Array.getElem?_eq_getElem (by omega)]⟩
      have f0 := hs.frozen i
      have HB : Hid (bv (byteAt x n i) = .int .u8 ((Y : Int) % 256)) := by
        unfold bv byteAt
        rw [show n - 1 - i = k by omega, ← hY, UInt8.toNat_ofNat', Nat.mod_mod]
        rw [show ((Y % 256 : Nat) : Int) = (Y : Int) % 256 by omega]
        rfl
      have HQ : Hid (((Y / 256 : Nat) : Int) = ((x / 256 ^ (k + 1) : Nat) : Int)) := by
        unfold Hid
        rw [hY, Nat.div_div_eq_div_mul, Nat.pow_succ]
      have HN : Hid (∃ cur' : Array Value, cur'.size = n ∧ (∀ j, i ≤ j → j < n → cur'[j]? = some (bv (byteAt x n j))) ∧ Sat w0 (Pt g 5 cur' * F) (wr.setCell ⟨g, i, none⟩ (.int .u8 ((Y : Int) % 256)))) := by
        refine ⟨cur.setIfInBounds i (.int .u8 ((Y : Int) % 256)), by simp [hc1], fun j h2 h3 => ?_, hs.set i _⟩
        by_cases e : i = j
        · subst e
          rw [Array.getElem?_setIfInBounds_self_of_lt (by omega), HB.out]
        · rw [Array.getElem?_setIfInBounds_ne e]
          exact hc2 j (by omega) h3
      have e2 : ((i + 1 : Nat) : Int) - 1 = (i : Int) := by omega
      rw [← hY, e2]
      have e3 : (i : Int) < n := by omega
      clear hY hc1 hc2 hs HD e2
      go_wp2_with fail
      go_roundw
      · exact ⟨k + 1, i, by omega, by omega, by rw [← HQ.out, show ((Y / 256 : Nat) : Int) = (Y : Int) / 256 by omega], rfl, HN.out⟩
      · simp [intOf] <;> omega
end Go.Proofs.Ytaoenbjfkahdjaa
namespace Go.Proofs.Ytaoenbjfkahdjaa
open Go.RowKit
set_option linter.unusedVariables false
set_option maxRecDepth 100000

def crcS (x : Nat) : Nat := if x % 2 = 1 then (x / 2) ^^^ 3988292384 else x / 2
def crcN : Nat → Nat → Nat
  | 0, x => x
  | k + 1, x => crcS (crcN k x)
def crcB (c : Nat) (b : UInt8) : Nat := crcN 8 (c ^^^ b.toNat)
def crcL (l : List UInt8) : Nat := l.foldl crcB 4294967295
/-- The sum of bytes. -/
def sumB (l : List UInt8) : Nat := crcL l ^^^ 4294967295
theorem xor_lt32 {a b : Nat} (ha : a < 4294967296) (hb : b < 4294967296) : a ^^^ b < 4294967296 := Nat.xor_lt_two_pow (n := 32) ha hb
theorem crcS_lt {x : Nat} (h : x < 4294967296) : crcS x < 4294967296 := by
  unfold crcS
  split
  · exact xor_lt32 (by omega) (by decide)
  · omega
theorem crcN_lt {x : Nat} (h : x < 4294967296) : ∀ k, crcN k x < 4294967296
  | 0 => h
  | k + 1 => crcS_lt (crcN_lt h k)
theorem u8_lt32 (b : UInt8) : b.toNat < 4294967296 := by have := b.toNat_lt; omega
theorem crcB_lt {c : Nat} (b : UInt8) (h : c < 4294967296) : crcB c b < 4294967296 := crcN_lt (xor_lt32 h (u8_lt32 b)) 8
theorem crcF_lt : ∀ (l : List UInt8) {c : Nat}, c < 4294967296 → l.foldl crcB c < 4294967296
  | [], _, h => h
  | b :: l, _, h => crcF_lt l (crcB_lt b h)
theorem crcL_lt (l : List UInt8) : crcL l < 4294967296 := crcF_lt l (by decide)
theorem sumB_lt (l : List UInt8) : sumB l < 4294967296 := xor_lt32 (crcL_lt l) (by decide)
theorem crcL_snoc (l : List UInt8) (b : UInt8) : crcL (l ++ [b]) = crcN 8 (crcL l ^^^ b.toNat) := by
  unfold crcL
  rw [List.foldl_append]
  rfl
theorem crcL_take {l : List UInt8} {i : Nat} (h : i < l.length) : crcL (l.take (i + 1)) = crcN 8 (crcL (l.take i) ^^^ l[i].toNat) := by
  rw [List.take_succ_eq_append_getElem h, crcL_snoc]
theorem xor32 (a b : Nat) (ha : a < 4294967296) (hb : b < 4294967296) : bits .xor .u32 (a : Int) (b : Int) = ((a ^^^ b : Nat) : Int) := u32_xor_nat a b ha hb
/-- The document's Sum. -/
theorem rsum1_any (A : Option Addr) (c : Nat) (l : List UInt8) (w : World) (h : Rd w A l) (hl : l.length ≤ 140737488355328) :
    Calls Try.prog 77 #[.slice A l.length c] w fun e w' => e = .returned (.int .u32 (sumB l : Nat)) ∧ w' = w := by
  have HR := Lib.hid h
  clear h
  go_enter Try.func77, Try.ntmps77
  go_wp2
  go_loopw [3, 4] (fun cv iv wr => ∃ i : Nat, i ≤ l.length ∧ cv = .int .u32 (crcL (l.take i) : Nat) ∧ iv = .int .i64 i ∧ Hid (wr = w)) (fun _ iv _ => l.length - (intOf iv).toNat)
  case atStart => exact ⟨0, by omega, rfl, rfl, rfl⟩
  case round =>
    obtain ⟨i, hi, rfl, rfl, HW⟩ := hrel
    obtain rfl := HW.out
    by_cases hlt : i < l.length
    · obtain ⟨b, o, rfl, hc⟩ := HR.out.get hlt
      obtain ⟨x0, hx0⟩ : ∃ x0, x0 = crcL (l.take i) := ⟨_, rfl⟩
      have hb0 : x0 < 4294967296 := by rw [hx0]; exact crcL_lt _
      have hxx := xor32 x0 l[i].toNat hb0 (u8_lt32 _)
      have HX := Lib.hid (crcL_take hlt)
      have hb1 := l[i].toNat_lt
      rw [← hx0]
      have HX0 := Lib.hid hx0
      obtain ⟨y, hy⟩ : ∃ y, y = x0 ^^^ l[i].toNat := ⟨_, rfl⟩
      have hyb : y < 4294967296 := by rw [hy]; exact xor_lt32 hb0 (u8_lt32 _)
      rw [← hx0, ← hy] at HX
      rw [← hy] at hxx
      have HY := Lib.hid hy
      clear hx0 hy
      go_wp2_with fail
      go_loopw [3, 5] (fun cv kv wq => ∃ k : Nat, k ≤ 8 ∧ cv = .int .u32 (crcN k y : Nat) ∧ kv = .int .i64 k ∧ Hid (wq = wr)) (fun _ kv _ => 8 - (intOf kv).toNat)
      case atStart => exact ⟨0, by omega, rfl, rfl, rfl⟩
      case round =>
        obtain ⟨k, hk, rfl, rfl, HW2⟩ := hrel
        obtain rfl := HW2.out
        by_cases hk8 : k < 8
        · obtain ⟨z, hz⟩ : ∃ z, z = crcN k y := ⟨_, rfl⟩
          have hzb : z < 4294967296 := by rw [hz]; exact crcN_lt hyb k
          have HZ : Hid (crcN (k + 1) y = crcS z) := by rw [hz]; rfl
          rw [← hz]
          clear hz
          by_cases hm : z % 2 = 1
          · have HS1 : Hid (crcS z = z / 2 ^^^ 3988292384) := if_pos hm
            have hm1 : (z : Int) % 2 = 1 := by omega
            have hxp : bits .xor .u32 ((z : Int) / 2) 3988292384 = ((z / 2 ^^^ 3988292384 : Nat) : Int) := by
              have := xor32 (z / 2) 3988292384 (by omega) (by decide)
              simpa using this
            clear hm
            go_wp2_with fail
            go_roundw
            · exact ⟨k + 1, by omega, by rw [HZ.out, HS1.out], by push_cast; rfl, by first | trivial | exact rfl⟩
            · simp [intOf]; omega
          · have HS1 : Hid (crcS z = z / 2) := if_neg hm
            have hm1 : (z : Int) % 2 = 0 := by omega
            clear hm
            go_wp2_with fail
            go_roundw
            · exact ⟨k + 1, by omega, by rw [HZ.out, HS1.out, show ((z / 2 : Nat) : Int) = (z : Int) / 2 by omega], by push_cast; rfl, by first | trivial | exact rfl⟩
            · simp [intOf]; omega
        · have hk9 : k = 8 := by omega
          subst hk9
          go_wp2_with fail
          go_roundw
          · exact ⟨i + 1, by omega, by rw [HX.out], by push_cast; rfl, by first | trivial | exact rfl⟩
          · simp [intOf]; omega
    · have hall : l.take i = l := List.take_of_length_le (by omega)
      have hxl : bits .xor .u32 ((crcL l : Nat) : Int) 4294967295 = ((sumB l : Nat) : Int) := xor32 (crcL l) 4294967295 (crcL_lt l) (by decide)
      rw [hall]
      clear hall
      go_wp2_with fail
      go_ret
      exact ⟨rfl, rfl⟩
theorem txt_step {ks : Rows_} {i : Nat} (h : i < ks.length) : (txt (ks.take (i + 1))).flatten = (txt (ks.take i)).flatten ++ ks[i].2.2 := by
  rw [List.take_succ_eq_append_getElem h, txt_append, List.flatten_append]
  simp [txt]
theorem crcL_app (p l : List UInt8) {j : Nat} (h : j < l.length) : crcL (p ++ l.take (j + 1)) = crcN 8 (crcL (p ++ l.take j) ^^^ l[j].toNat) := by
  rw [List.take_succ_eq_append_getElem h, ← List.append_assoc, crcL_snoc]
theorem and32 (a b : Nat) (ha : a < 4294967296) (hb : b < 4294967296) : bits .and .u32 (a : Int) (b : Int) = ((a &&& b : Nat) : Int) := u32_and_nat a b ha hb
set_option maxHeartbeats 1000000 in
/-- Sum. -/
theorem osum_any (A : Option Addr) (c : Nat) (ks : Rows_) (w : World) (h : RdL w A ks) (hks : ks.length ≤ 1000000) (hl : ∀ k ∈ ks, k.2.2.length ≤ 140737488355328) :
    Calls Try.prog 59 #[.slice A ks.length c] w fun e w' => e = .returned (.int .u32 (sumB (txt ks).flatten : Nat)) ∧ w' = w := by
  have HR := Lib.hid h
  have HLn := Lib.hid hl
  clear h hl
  go_enter Try.func59, Try.ntmps59
  go_wp2
  go_loopw [3, 10] (fun cv iv wr => ∃ i : Nat, i ≤ ks.length ∧ cv = .int .u32 (crcL (txt (ks.take i)).flatten : Nat) ∧ iv = .int .i64 i ∧ Hid (wr = w)) (fun _ iv _ => ks.length - (intOf iv).toNat)
  case atStart => exact ⟨0, by omega, rfl, rfl, rfl⟩
  case round =>
    obtain ⟨i, hi, rfl, rfl, HW⟩ := hrel
    obtain rfl := HW.out
    by_cases hlt : i < ks.length
    · obtain ⟨⟨b, o, rfl, hc⟩, hx⟩ := HR.out.get hlt
      have HXr := Lib.hid hx
      have hll := HLn.out _ (List.getElem_mem hlt)
      have HTx := Lib.hid (txt_step hlt)
      obtain ⟨l, hl⟩ : ∃ l, l = ks[i].2.2 := ⟨_, rfl⟩
      obtain ⟨p, hp⟩ : ∃ p, p = (txt (ks.take i)).flatten := ⟨_, rfl⟩
      rw [← hl] at hll HXr hc
      rw [← hl, ← hp] at HTx
      rw [← hp]
      clear hx hl hp
      go_wp2_with fail
      go_loopw [3, 16] (fun cv jv wq => ∃ j : Nat, j ≤ l.length ∧ cv = .int .u32 (crcL (p ++ l.take j) : Nat) ∧ jv = .int .i64 j ∧ Hid (wq = wr)) (fun _ jv _ => l.length - (intOf jv).toNat)
      case atStart => exact ⟨0, by omega, by simp, rfl, rfl⟩
      case round =>
        obtain ⟨j, hj, rfl, rfl, HW2⟩ := hrel
        obtain rfl := HW2.out
        by_cases hjl : j < l.length
        · obtain ⟨b2, o2, hA, hc2⟩ := HXr.out.get hjl
          have HX := Lib.hid (crcL_app p l hjl)
          obtain ⟨x0, hx0⟩ : ∃ x0, x0 = crcL (p ++ l.take j) := ⟨_, rfl⟩
          have hb0 : x0 < 4294967296 := by rw [hx0]; exact crcL_lt _
          have hxx := xor32 x0 l[j].toNat hb0 (u8_lt32 _)
          have hb1 := l[j].toNat_lt
          rw [← hx0]
          obtain ⟨y, hy⟩ : ∃ y, y = x0 ^^^ l[j].toNat := ⟨_, rfl⟩
          have hyb : y < 4294967296 := by rw [hy]; exact xor_lt32 hb0 (u8_lt32 _)
          rw [← hx0, ← hy] at HX
          rw [← hy] at hxx
          rw [hA]
          clear hx0 hy
          go_wp2_with fail
          go_loopw [3, 24] (fun cv kv wq => ∃ k : Nat, k ≤ 8 ∧ cv = .int .u32 (crcN k y : Nat) ∧ kv = .int .i64 k ∧ Hid (wq = wr)) (fun _ kv _ => 8 - (intOf kv).toNat)
          case atStart => exact ⟨0, by omega, rfl, rfl, rfl⟩
          case round =>
            obtain ⟨k, hk, rfl, rfl, HW3⟩ := hrel
            obtain rfl := HW3.out
            by_cases hk8 : k < 8
            · obtain ⟨z, hz⟩ : ∃ z, z = crcN k y := ⟨_, rfl⟩
              have hzb : z < 4294967296 := by rw [hz]; exact crcN_lt hyb k
              have HZ : Hid (crcN (k + 1) y = crcS z) := by rw [hz]; rfl
              rw [← hz]
              clear hz
              by_cases hm : z % 2 = 1
              · have HS1 : Hid (crcS z = z / 2 ^^^ 3988292384) := if_pos hm
                have hxp : bits .xor .u32 ((z : Int) / 2) 3988292384 = ((z / 2 ^^^ 3988292384 : Nat) : Int) := by
                  have := xor32 (z / 2) 3988292384 (by omega) (by decide)
                  simpa using this
                have ha1 : bits .and .u32 (z : Int) 1 = 1 := by
                  have := and32 z 1 hzb (by decide)
                  rw [Nat.and_one_is_mod, hm] at this
                  simpa using this
                have ha2 : bits .and .u32 3988292384 4294967295 = 3988292384 := by decide
                clear hm
                go_wp2_with fail
                go_roundw
                · exact ⟨k + 1, by omega, by rw [HZ.out, HS1.out], by push_cast; rfl, by first | trivial | exact rfl⟩
                · simp [intOf]; omega
              · have HS1 : Hid (crcS z = z / 2) := if_neg hm
                have ha1 : bits .and .u32 (z : Int) 1 = 0 := by
                  have := and32 z 1 hzb (by decide)
                  rw [Nat.and_one_is_mod, show z % 2 = 0 by omega] at this
                  simpa using this
                have ha2 : bits .and .u32 3988292384 0 = 0 := by decide
                have ha3 : bits .xor .u32 ((z : Int) / 2) 0 = ((z / 2 : Nat) : Int) := by
                  have := xor32 (z / 2) 0 (by omega) (by decide)
                  simpa using this
                clear hm
                go_wp2_with fail
                go_roundw
                · exact ⟨k + 1, by omega, by rw [HZ.out, HS1.out, show ((z / 2 : Nat) : Int) = (z : Int) / 2 by omega], by push_cast; rfl, by first | trivial | exact rfl⟩
                · simp [intOf]; omega
            · have hk9 : k = 8 := by omega
              subst hk9
              go_wp2_with fail
              go_roundw
              · exact ⟨j + 1, by omega, by rw [HX.out], by push_cast; rfl, by first | trivial | exact rfl⟩
              · simp [intOf]; omega
        · have hall : l.take j = l := List.take_of_length_le (by omega)
          rw [hall]
          clear hall
          go_wp2_with fail
          go_roundw
          · exact ⟨i + 1, by omega, by rw [HTx.out], by push_cast; rfl, by first | trivial | exact rfl⟩
          · simp [intOf]; omega
    · have hall : ks.take i = ks := List.take_of_length_le (by omega)
      have hxl : bits .xor .u32 IntKind.u32.max ((crcL (txt ks).flatten : Nat) : Int) = ((sumB (txt ks).flatten : Nat) : Int) := by
        have h1 := xor32 4294967295 (crcL (txt ks).flatten) (by decide) (crcL_lt _)
        rw [Nat.xor_comm] at h1
        exact h1
      rw [hall]
      clear hall
      go_wp2_with fail
      go_ret
      exact ⟨rfl, rfl⟩
end Go.Proofs.Ytaoenbjfkahdjaa
namespace Go.Proofs.Ytaoenbjfkahdjaa
open Go.RowKit
set_option linter.unusedVariables false
set_option maxRecDepth 100000

/-- The number that bytes say. -/
def getN (l : List UInt8) : Nat := l.foldl (fun x b => x * 256 + b.toNat) 0
theorem getN_snoc (l : List UInt8) (b : UInt8) : getN (l ++ [b]) = getN l * 256 + b.toNat := by
  unfold getN
  rw [List.foldl_append]
  rfl
theorem getN_take {l : List UInt8} {i : Nat} (h : i < l.length) : getN (l.take (i + 1)) = getN (l.take i) * 256 + l[i].toNat := by
  rw [List.take_succ_eq_append_getElem h, getN_snoc]
theorem getF_lt : ∀ (l : List UInt8) (c : Nat), l.foldl (fun x b => x * 256 + b.toNat) c < (c + 1) * 256 ^ l.length
  | [], c => by simp
  | b :: l, c => by
    have h1 := getF_lt l (c * 256 + b.toNat)
    have h2 := b.toNat_lt
    rw [List.foldl_cons, List.length_cons, Nat.pow_succ]
    refine Nat.lt_of_lt_of_le h1 ?_
    rw [Nat.mul_comm (256 ^ l.length) 256, ← Nat.mul_assoc]
    exact Nat.mul_le_mul_right _ (by omega)
theorem getN_lt (l : List UInt8) : getN l < 256 ^ l.length := by simpa [getN] using getF_lt l 0
theorem getN_lt64 (l : List UInt8) (h : l.length ≤ 8) : getN l < 18446744073709551616 :=
  Nat.lt_of_lt_of_le (getN_lt l) (Nat.le_trans (Nat.pow_le_pow_right (by decide) h) (by decide))
theorem getN_lt56 (l : List UInt8) (h : l.length ≤ 7) : getN l < 72057594037927936 :=
  Nat.lt_of_lt_of_le (getN_lt l) (Nat.le_trans (Nat.pow_le_pow_right (by decide) h) (by decide))
theorem or64 (x b : Nat) (hx : x < 72057594037927936) (hb : b < 256) : bits .or .u64 ((x : Int) * 256) (b : Int) = ((x * 256 + b : Nat) : Int) := by
  have h1 := u64_or_nat (x * 256) b (by omega) (by omega)
  have h2 : x * 256 ||| b = x * 256 + b := by
    have := Nat.shiftLeft_add_eq_or_of_lt (b := b) (i := 8) (by simpa using hb) x
    rw [Nat.shiftLeft_eq] at this
    exact this.symm
  rw [h2] at h1
  rw [← h1]
  push_cast
  rfl
theorem oget_any (A : Option Addr) (c : Nat) (l : List UInt8) (w : World) (h : Rd w A l) (hl : l.length ≤ 8) :
    Calls Try.prog 94 #[.slice A l.length c] w fun e w' => e = .returned (.int .u64 (getN l : Nat)) ∧ w' = w := by
  have HR := Lib.hid h
  clear h
  go_enter Try.func94, Try.ntmps94
  go_wp2
  go_loopw [3, 8] (fun cv iv wr => ∃ i : Nat, i ≤ l.length ∧ cv = .int .u64 (getN (l.take i) : Nat) ∧ iv = .int .i64 i ∧ Hid (wr = w)) (fun _ iv _ => l.length - (intOf iv).toNat)
  case atStart => exact ⟨0, by omega, rfl, rfl, rfl⟩
  case round =>
    obtain ⟨i, hi, rfl, rfl, HW⟩ := hrel
    obtain rfl := HW.out
    by_cases hlt : i < l.length
    · obtain ⟨b, o, rfl, hc⟩ := HR.out.get hlt
      have HX := Lib.hid (getN_take hlt)
      have hb := getN_lt56 (l.take i) (by rw [List.length_take]; omega)
      have hb1 := l[i].toNat_lt
      have ho := or64 (getN (l.take i)) l[i].toNat hb hb1
      have hw : IntKind.u64.wrap ((getN (l.take i) : Int) * 256) = (getN (l.take i) : Int) * 256 := by rw [IntKind.wrap_u64]; omega
      generalize getN (l.take i) = x0 at *
      go_wp2_with fail
      go_roundw
      · exact ⟨i + 1, by omega, by rw [HX.out]; push_cast; rfl, by push_cast; rfl, by first | trivial | exact rfl⟩
      · simp [intOf]; omega
    · have hall : l.take i = l := List.take_of_length_le (by omega)
      rw [hall]
      clear hall
      go_wp2_with fail
      go_ret
      exact ⟨rfl, rfl⟩
theorem rget1_any (A : Option Addr) (c : Nat) (l : List UInt8) (w : World) (h : Rd w A l) (hl : l.length ≤ 8) :
    Calls Try.prog 85 #[.slice A l.length c] w fun e w' => e = .returned (.int .u64 (getN l : Nat)) ∧ w' = w := by
  have HR := Lib.hid h
  clear h
  go_enter Try.func85, Try.ntmps85
  go_wp2
  go_loopw [3, 4] (fun cv iv wr => ∃ i : Nat, i ≤ l.length ∧ cv = .int .u64 (getN (l.take i) : Nat) ∧ iv = .int .i64 i ∧ Hid (wr = w)) (fun _ iv _ => l.length - (intOf iv).toNat)
  case atStart => exact ⟨0, by omega, rfl, rfl, rfl⟩
  case round =>
    obtain ⟨i, hi, rfl, rfl, HW⟩ := hrel
    obtain rfl := HW.out
    by_cases hlt : i < l.length
    · obtain ⟨b, o, rfl, hc⟩ := HR.out.get hlt
      have HX := Lib.hid (getN_take hlt)
      have hb := getN_lt56 (l.take i) (by rw [List.length_take]; omega)
      have hb1 := l[i].toNat_lt
      generalize getN (l.take i) = x0 at *
      go_wp2_with fail
      go_roundw
      · exact ⟨i + 1, by omega, by rw [HX.out]; push_cast; rfl, by push_cast; rfl, by first | trivial | exact rfl⟩
      · simp [intOf]; omega
    · have hall : l.take i = l := List.take_of_length_le (by omega)
      rw [hall]
      clear hall
      go_wp2_with fail
      go_ret
      exact ⟨rfl, rfl⟩
/-- What Put lays Get reads. -/
theorem getN_app (a b : List UInt8) : getN (a ++ b) = getN a * 256 ^ b.length + getN b := by
  unfold getN
  rw [List.foldl_append]
  generalize a.foldl (fun x b => x * 256 + b.toNat) 0 = c
  induction b generalizing c with
  | nil => simp
  | cons y b ih =>
    rw [List.foldl_cons, List.foldl_cons, ih, ih (0 * 256 + y.toNat), List.length_cons, Nat.pow_succ, Nat.add_mul, Nat.mul_assoc, Nat.mul_comm 256 (256 ^ b.length), Nat.zero_mul, Nat.zero_add, Nat.add_assoc]
theorem putB_succ (x n : Nat) : putB x (n + 1) = putB (x / 256) n ++ [UInt8.ofNat (x % 256)] := by
  unfold putB
  rw [List.range_succ, List.map_append]
  congr 1
  · refine List.map_congr_left fun i hi => ?_
    have hi := List.mem_range.1 hi
    unfold byteAt
    rw [Nat.div_div_eq_div_mul, show n + 1 - 1 - i = (n - 1 - i) + 1 by omega, Nat.pow_succ, Nat.mul_comm 256]
  · simp [byteAt]
theorem get_put : ∀ (n x : Nat), getN (putB x n) = x % 256 ^ n
  | 0, x => by simp [putB, getN, Nat.mod_one]
  | n + 1, x => by
    rw [putB_succ, getN_snoc, get_put n (x / 256), Nat.pow_succ, UInt8.toNat_ofNat', Nat.mod_mod, Nat.mul_comm (256 ^ n) 256, Nat.mod_mul]
    omega
end Go.Proofs.Ytaoenbjfkahdjaa
namespace Go.Proofs.Ytaoenbjfkahdjaa
open Go.RowKit
set_option linter.unusedVariables false
set_option maxRecDepth 100000

theorem str_beq (l m : List UInt8) : ((ByteArray.mk l.toArray).toList == (ByteArray.mk m.toArray).toList) = decide (l = m) := by
  by_cases h : l = m
  · subst h; simp
  · simp [h]
theorem str_two (l m : List UInt8) : ∃ (SA SB : ByteArray) (B : Bool), SA = ByteArray.mk l.toArray ∧ SB = ByteArray.mk m.toArray ∧ (SA.toList == SB.toList) = B ∧ B = decide (l = m) := ⟨_, _, _, rfl, rfl, rfl, str_beq l m⟩
theorem str_any {w : World} {A : Option Addr} {l : List UInt8} (h : Rd w A l) (c : Nat) : (convert 32 9 (.slice A l.length c)).run Try.prog w = .ok (.string ⟨l.toArray⟩) w :=
  h.str (P := Try.prog) 32 9 5 Try.underlying32 Try.underlying5 Try.underlying9 c
end Go.Proofs.Ytaoenbjfkahdjaa
