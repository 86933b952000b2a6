/- Joined, as they were built one by one: Map Bytes Clone Rol Blk App Blk1 Blk2. -/
import Derived.Maps.Keyed
import Derived.Maps.OwnOps
import Derived.Maps.OwnSet
import Derived.Maps.RangeWalk
import Derived.Test.YtjmapbhgjhlefaaProg
import Derived.Lib.SlBytesConst
import Derived.Test.YtjmapbhgjhlefaaQ01
namespace Go.Proofs.Ytjmapbhgjhlefaa
open Go.RowKit
set_option linter.unusedVariables false
set_option maxRecDepth 100000

/-- An element, as it is. -/
def heldR (v : Value) : Option (DataW Value × List MemPlace) := some (.held v, [])
/-- The datum D tells of each number what f tells. -/
def Says (D : DataW Value) (f : Int → Option Value) : Prop := ∀ i z, D.atKey (.int .i64 i) z = match f i with | some v => .held v | none => z
/-- Block b is a map of at most n entries that tells what f tells. -/
def MapP (P : Program) (k : TypeId) (b n : Nat) (f : Int → Option Value) : SP := fun h => ∃ es clock, Ow b (.map es clock) h ∧ Go.WideElems.Fit P k heldR es clock ∧ es.size ≤ n ∧ Says (.map ((es.toList.map (Go.WideElems.rg P k heldR)).foldr DataW.insert [])) f
def upd (f : Int → Option Value) (i : Int) (v : Value) : Int → Option Value := fun j => if j = i then some v else f j
section
variable {P : Program} {k t e : TypeId} {b n : Nat} {f : Int → Option Value} {w0 w w' : World} {F : SP} {D : DataW Value}
theorem Sat.map_cases (h : Sat w0 (MapP P k b n f * F) w) : ∃ es clock, Sat w0 (Ow b (.map es clock) * F) w ∧ Go.WideElems.Fit P k heldR es clock ∧ es.size ≤ n ∧ Says (.map ((es.toList.map (Go.WideElems.rg P k heldR)).foldr DataW.insert [])) f := by
  obtain ⟨c, x, h1, a, g, h2, h3, ⟨es, clock, h4, h5, h6, h7⟩, h8⟩ := h
  exact ⟨es, clock, ⟨c, x, h1, a, g, h2, h3, h4, h8⟩, h5, h6, h7⟩
theorem Sat.map_own (h : Sat w0 (MapP P k b n f * F) w) : ∃ D, w.ownsMap P k heldR b n D ∧ Says D f := by
  obtain ⟨es, clock, h1, h2, h3, h4⟩ := h.map_cases
  exact ⟨_, ⟨es, clock, h1.block, h2, h3, rfl⟩, h4⟩
theorem Sat.map_block (h : Sat w0 (MapP P k b n f * F) w) : ∃ o, Sat w0 (Ow b o * F) w := by
  obtain ⟨es, clock, h1, _⟩ := h.map_cases
  exact ⟨_, h1⟩
theorem Sat.mapI {es : Array MapEntry} {clock : Nat} (h : Sat w0 (Ow b (.map es clock) * F) w) (h5 : Go.WideElems.Fit P k heldR es clock) (h6 : es.size ≤ n)
    (h7 : Says (.map ((es.toList.map (Go.WideElems.rg P k heldR)).foldr DataW.insert [])) f) : Sat w0 (MapP P k b n f * F) w := by
  obtain ⟨c, x, h1, a, g, h2, h3, h4, h8⟩ := h
  exact ⟨c, x, h1, a, g, h2, h3, ⟨es, clock, h4, h5, h6, h7⟩, h8⟩
theorem Sat.map_turn (h : Sat w0 (MapP P k b n f * F) w) {w' : World} {n' : Nat} {f' : Int → Option Value} (k' : w.mapTurned w' b) (ho : w'.ownsMap P k heldR b n' D) (hs : Says D f') : Sat w0 (MapP P k b n' f' * F) w' := by
  obtain ⟨o, h1⟩ := h.map_block
  obtain ⟨es, clock, hb, hf, hn, rfl⟩ := ho
  refine Sat.mapI (h1.turn ?_ hb) hf hn hs
  exact (Chg.of_grown k'.grown).mono fun i _ hi => Option.some.inj hi
theorem says_none : Says (.map []) (fun _ => none) := fun i z => rfl
theorem Sat.map_new (h : Sat w0 F w) : Sat w0 (MapP P k w.heap.size 0 (fun _ => none) * F) (w.alloc (.map #[] 0)) := by
  obtain ⟨es, clock, hb, hf, hn, hd⟩ := World.ownsMap_made (H := Value) w P k heldR
  have h1 := h.alloc (.map #[] 0)
  have hb' := h1.block
  rw [hb] at hb'
  injection hb' with hb'
  injection hb' with e1 e2
  subst e1; subst e2
  exact Sat.mapI h1 hf hn (by simpa using says_none)
theorem fit_none (P : Program) (k : TypeId) (clock : Nat) : Go.WideElems.Fit P k heldR #[] clock := by
  refine ⟨by simp, ?_, by simp⟩
  constructor <;> simp
/-- clear. -/
theorem Sat.map_clear (h : Sat w0 (MapP P k b n f * F) w) (ht : P.underlying t = some (.map k e)) (ty : TypeId) : ∃ w', (Builtin.clear_ #[t] ty #[.map (some b)]).run P w = .ok (.tuple #[]) w' ∧ Sat w0 (MapP P k b 0 (fun _ => none) * F) w' ∧ Chg (One b) w w' := by
  obtain ⟨es, clock, h1, h2, h3, h4⟩ := h.map_cases
  have hb := h1.block
  have ho : (ChangeMaps.setBlock w b (.map #[] clock)).ownsMap P k heldR b 0 (.map []) := ⟨#[], clock, ChangeMaps.heap_setBlock_same hb _, fit_none _ _ _, by simp, by simp⟩
  have hk : w.mapTurned (ChangeMaps.setBlock w b (.map #[] clock)) b := ⟨es, clock, _, _, hb, rfl⟩
  refine ⟨_, ?_, h.map_turn hk ho says_none, (Chg.of_grown hk.grown).mono fun i _ hi => Option.some.inj hi⟩
  simp [Builtin.clear_, run_underlying ht, MapKept.run_getObj_map hb, MapKept.run_setObj_map (P := P) (.map #[] clock) hb, Result.andThen, ChangeMaps.setBlock]
theorem wf_i64 {i : Int} (h : -9223372036854775808 ≤ i ∧ i ≤ 9223372036854775807) : (Lit.int .i64 i).wf = true := by
  simp only [Lit.wf, Bool.and_eq_true, decide_eq_true_iff]
  exact h
/-- v, ok := m[i] -/
theorem Sat.map_look (h : Sat w0 (MapP P k b n f * F) w) (hk : P.underlying k = some (.int .i64)) (ht : P.underlying t = some (.map k e)) {z : Value} (hz : (zeroValue e).run P w = .ok z w) (i : Int) (hi : -9223372036854775808 ≤ i ∧ i ≤ 9223372036854775807) :
    (Instr.lookup t (.map (some b)) (.int .i64 i) true).run P w = .ok (.tuple #[(f i).getD z, .bool (f i).isSome]) w := by
  obtain ⟨D, ho, hs⟩ := h.map_own
  obtain ⟨v, ps, h1, h2⟩ := ho.look_ok (Maps.int_keyed hk) ht hz (zd := .held z) (zp := []) rfl (Maps.keyOf_int_mk hk (wf_i64 hi))
  rw [h1]
  unfold heldR at h2
  injection h2 with h2
  injection h2 with h2 _
  have h3 := hs i (.held z)
  cases hf : f i with
  | none =>
    rw [hf] at h3
    rw [← h2] at h3
    injection h3 with h3
    subst h3
    have : Maps.has D (.int .i64 i) = false := Maps.has_false_of_atKey fun z => by have := hs i z; rw [hf] at this; exact this
    rw [this]
    rfl
  | some u =>
    rw [hf] at h3
    rw [← h2] at h3
    injection h3 with h3
    subst h3
    have : Maps.has D (.int .i64 i) = true := Maps.has_true_of_atKey (y := .held v) fun z => by have := hs i z; rw [hf] at this; exact this
    rw [this]
    rfl
/-- m[i] = v -/
theorem Sat.map_store (h : Sat w0 (MapP P k b n f * F) w) (hk : P.underlying k = some (.int .i64)) (ht : P.underlying t = some (.map k e)) (i : Int) (hi : -9223372036854775808 ≤ i ∧ i ≤ 9223372036854775807) (v : Value) (hn : n < maxLen) :
    ∃ w', (Instr.mapUpdate t (.map (some b)) (.int .i64 i) v).run P w = .ok () w' ∧ Sat w0 (MapP P k b (n + 1) (upd f i v) * F) w' ∧ Chg (One b) w w' := by
  obtain ⟨D, ho, hs⟩ := h.map_own
  obtain ⟨w', h1, h2, h3⟩ := ho.store (Maps.int_keyed hk) ht hn (Maps.keyOf_int_mk hk (wf_i64 hi)) (val := v) (d := .held v) (ps := []) rfl
  refine ⟨w', h1, h.map_turn h3 h2 fun j z => ?_, (Chg.of_grown h3.grown).mono fun i _ hi => Option.some.inj hi⟩
  unfold upd
  by_cases e : j = i
  · subst e
    rw [if_pos rfl]
    exact Maps.atKey_put_same (ho.isMap) (by simp [WideAt.IsKeyLit]) _ _
  · rw [if_neg e]
    rw [Maps.atKey_put_other (fun q => e (by injection q))]
    exact hs j z
end
end Go.Proofs.Ytjmapbhgjhlefaa
namespace Go.Proofs.Ytjmapbhgjhlefaa
open Go.RowKit
set_option linter.unusedVariables false
set_option maxRecDepth 100000

theorem info_u8 : (Try.prog.info? 5).map (fun i => (i.zero, i.size, i.bytes)) = some (some (.int .u8 0), 1, 1) := by kernel_rfl

/-- n noughts, as cells. -/
def noughts (n : Nat) : Array Value := ((List.replicate n (0 : UInt8)).map bv).toArray
theorem noughts_made (n : Nat) : madeCells #[.int .u8 0] n = noughts n := by
  apply Array.ext'
  apply List.ext_getElem?
  intro j
  simp [madeCells, noughts, List.getElem?_replicate]
  by_cases h : j < n
  · simp [h, bv]
    rw [Nat.mod_one]
    rfl
  · simp [h]
theorem make_bytes (n : Nat) (hn : n ≤ 140737488355330) (W : World) : (Instr.makeSlice 39 (.int .i64 (n : Int)) (.int .i64 (n : Int))).run Try.prog W =
    .ok (.slice (some ⟨W.heap.size, 0, none⟩) n n) (W.alloc (.cells (noughts n) 5)) := by
  obtain ⟨i0, hi, hz0, hz1, hz2⟩ := info_parts info_u8
  have hr := run_make (P := Try.prog) W 39 5 i0 _ Try.underlying39 hi hz0 .i64 .i64 n n (by omega) (by omega) (by rw [hz2]; omega) (by omega)
  have hc : (Value.int .u8 0).cells = #[.int .u8 0] := rfl
  simpa [hz1, hc, noughts_made] using hr
theorem make_512 (W : World) : (Instr.makeSlice 39 (.int .i64 512) (.int .i64 512)).run Try.prog W = .ok (.slice (some ⟨W.heap.size, 0, none⟩) 512 512) (W.alloc (.cells (noughts 512) 5)) := make_bytes 512 (by omega) W

theorem same_any (A B : Option Addr) (c d : Nat) (l r : List UInt8) (w : World) (ha : Rd w A l) (hb : Rd w B r) :
    Calls Try.prog 31 #[.slice A l.length c, .slice B r.length d] w fun e w' => e = .returned (.bool (l == r)) ∧ w = w' := by
  have h1 := ha.str (P := Try.prog) 39 9 5 Try.underlying39 Try.underlying5 Try.underlying9 c
  have h2 := hb.str (P := Try.prog) 39 9 5 Try.underlying39 Try.underlying5 Try.underlying9 d
  clear ha hb
  go_enter Try.func31, Try.ntmps31
  go_wp2
  go_ret
  exact ⟨rfl, rfl⟩

/-- Twin: a row of its own. -/
def Twinned (l : List UInt8) (w : World) (e : Ending) (w' : World) : Prop :=
  ∃ v, e = .returned v ∧ w'.ownsRow w.heap.size 5 1 v l.length (l.map bv) ∧ Chg No w w'
theorem twin_any (A : Option Addr) (c : Nat) (l : List UInt8) (w : World) (h : Rd w A l) (hl : l.length ≤ 140737488355328) :
    Calls Try.prog 114 #[.slice A l.length c] w (Twinned l w) := by
  obtain ⟨i0, hi, hz0, hz1, hz2⟩ := info_parts info_u8
  have hmax : l.length ≤ maxLen := by unfold maxLen; omega
  have HL := Lib.hid h
  clear h
  go_enter Try.func114, Try.ntmps114
  go_wp2_with (at_builtin; refine wpList_app rfl (.tmp 4) (.tmp 5) 39 rfl w.heap.size 5 i0 _ 1 1 Try.underlying39 hi hz0 hz1 hz2 rfl (by decide) (.slice none 0 0) 0 [] rfl (World.ownsRow_nil _ _ _ _) A l.length c (l.map bv) rfl HL.out (by simp) (bv_one l) (by omega) (by omega) (Nat.le_refl _) ?_; intro v1 w1 hap)
  go_ret
  have hown := hap.own
  refine ⟨v1, rfl, by simpa using hown, hap.old (Chg.refl No w) (World.ownsRow_nil w w.heap.size 5 1) (Nat.le_refl _)⟩
end Go.Proofs.Ytjmapbhgjhlefaa
namespace Go.Proofs.Ytjmapbhgjhlefaa
open Go.RowKit
set_option linter.unusedVariables false
set_option maxRecDepth 100000

/-- What slices.Clone gives: a row of its own; nil of nil alone. -/
def Cloned (l : List UInt8) (A : Option Addr) (w : World) (e : Ending) (w' : World) : Prop :=
  ∃ v, e = .returned v ∧ w'.ownsRow w.heap.size 5 1 v l.length (l.map bv) ∧ (v = .slice none 0 0 ↔ A = none) ∧ Chg No w w'

theorem clone_any (A : Option Addr) (c : Nat) (l : List UInt8) (w : World) (h : Rd w A l) (hl : l.length ≤ 140737488355328) :
    Calls Try.prog 72 #[.slice A l.length c] w (Cloned l A w) := by
  have hmax : l.length ≤ maxLen := by unfold maxLen; omega
  rcases A with _ | ad
  · have hl0 : l = [] := by
      rcases l with _ | ⟨x, l⟩
      · rfl
      · obtain ⟨b, o, e, _⟩ := h (by simp); cases e
    subst hl0
    have hnil := fun (W : World) (A : Option Addr) (n c : Nat) => Lib.run_eql_slice_nil (P := Try.prog) W 39 5 A n c 0 0 Try.underlying39
    go_enter Try.func72, Try.ntmps72
    go_wp2
    go_ret
    exact ⟨_, rfl, World.ownsRow_nil _ _ _ _, by simp, Chg.refl _ _⟩
  · obtain ⟨i0, hi, hz0, hz1, hz2⟩ := info_parts info_u8
    have hnil := fun (W : World) (A : Option Addr) (n c : Nat) => Lib.run_eql_slice_nil (P := Try.prog) W 39 5 A n c 0 0 Try.underlying39
    go_enter Try.func72, Try.ntmps72
    have HL := Lib.hid h
    clear h
    go_wp2_with (at_builtin; refine wpList_app rfl (.tmp 5) (.tmp 6) 39 rfl w.heap.size 5 i0 _ 1 1 Try.underlying39 hi hz0 hz1 hz2 rfl (by decide) (.slice (some ⟨w.heap.size, 0, none⟩) 0 0) 0 [] rfl (own_lit w 5 #[] (Nat.zero_le _)) (some ad) l.length c (l.map bv) rfl ((HL.out).alloc _) (by simp) (bv_one l) (by omega) (by omega) (by simp) ?_; intro v1 w1 hap)
    go_ret
    have hown := hap.own
    have hn := hap.nil
    refine ⟨v1, rfl, by simpa using hown, by simpa using hn, hap.old ((Chg.refl No w).alloc _) (own_lit w 5 #[] (Nat.zero_le _)) (Nat.le_refl _)⟩

end Go.Proofs.Ytjmapbhgjhlefaa
namespace Go.Proofs.Ytjmapbhgjhlefaa
open Go.RowKit
set_option linter.unusedVariables false
set_option maxRecDepth 100000

/-- A slice of bytes: where it lies, its room, what it reads as. -/
abbrev Slc := Option Addr × Nat × List UInt8
/-- All of these may be read, for good. -/
def RoL (rs : List Slc) : SP := fun h => (∀ k x, h k = some x → x.1 = true) ∧ ∀ r ∈ rs, r.2.2 ≠ [] → ∃ b o cs t fr, r.1 = some ⟨b, o, none⟩ ∧ h b = some (true, .cells cs t fr) ∧ ∀ j (hj : j < r.2.2.length), cs[o + j]? = some (bv r.2.2[j])
section
variable {w0 w : World} {F : SP} {rs rs' : List Slc}
theorem rol_nil : RoL [] = fun h => ∀ k x, h k = some x → x.1 = true := by funext h; simp [RoL]
theorem rol_sub {h : Hp} (hr : RoL rs h) (hs : ∀ r ∈ rs', r ∈ rs) : RoL rs' h := ⟨hr.1, fun r hx => hr.2 r (hs r hx)⟩
theorem Sat.rol_sub (h : Sat w0 (RoL rs * F) w) (hs : ∀ r ∈ rs', r ∈ rs) : Sat w0 (RoL rs' * F) w := h.mono fun x ⟨a, f, h1, h2, h3, h4⟩ => ⟨a, f, h1, h2, Proofs.Ytjmapbhgjhlefaa.rol_sub h3 hs, h4⟩
theorem rol_dup (rs : List Slc) : RoL rs * RoL rs = RoL rs := by
  funext h
  refine propext ⟨?_, fun hh => ⟨h, h, fun k => ?_, funext fun k => ?_, hh, hh⟩⟩
  · rintro ⟨a, b, h1, rfl, ⟨h2, h3⟩, h4, h5⟩
    refine ⟨fun k x hx => ?_, fun r hr hx => ?_⟩
    · unfold Hp.un jn at hx
      cases ha : a k with
      | none => rw [ha] at hx; exact h4 k x hx
      | some y => rw [ha] at hx; injection hx with hx; subst hx; exact h2 k _ ha
    · obtain ⟨b', o, cs, t, fr, e, hb, hc⟩ := h3 r hr hx
      exact ⟨b', o, cs, t, fr, e, by unfold Hp.un; rw [hb]; rfl, hc⟩
  · cases hk : h k with
    | none => exact .inl rfl
    | some x => have := hh.1 k x hk; obtain ⟨q, o⟩ := x; cases this; exact .inr (.inr ⟨o, rfl, rfl⟩)
  · unfold Hp.un jn; cases h k <;> rfl
theorem rol_app (rs rs' : List Slc) : RoL rs * RoL rs' = RoL (rs ++ rs') := by
  funext h
  refine propext ⟨?_, fun hh => ?_⟩
  · rintro ⟨a, b, h1, rfl, ⟨h2, h3⟩, h4, h5⟩
    refine ⟨fun k x hx => ?_, fun r hr hx => ?_⟩
    · unfold Hp.un jn at hx
      cases ha : a k with
      | none => rw [ha] at hx; exact h4 k x hx
      | some y => rw [ha] at hx; injection hx with hx; subst hx; exact h2 k _ ha
    · rcases List.mem_append.1 hr with hr | hr
      · obtain ⟨b', o, cs, t, fr, e, hb, hc⟩ := h3 r hr hx
        exact ⟨b', o, cs, t, fr, e, by unfold Hp.un; rw [hb]; rfl, hc⟩
      · obtain ⟨b', o, cs, t, fr, e, hb, hc⟩ := h5 r hr hx
        refine ⟨b', o, cs, t, fr, e, ?_, hc⟩
        unfold Hp.un
        rcases h1 b' with q | q | ⟨ob, q1, q2⟩
        · rw [q, hb]; rfl
        · rw [q] at hb; cases hb
        · rw [q1, ← hb, q2]; rfl
  · have e := rol_dup (rs ++ rs')
    rw [← e] at hh
    obtain ⟨a, b, h1, h2, h3, h4⟩ := hh
    exact ⟨a, b, h1, h2, rol_sub h3 (fun r hr => List.mem_append_left _ hr), rol_sub h4 (fun r hr => List.mem_append_right _ hr)⟩
theorem Sat.rol (h : Sat w0 (RoL rs * F) w) {r : Slc} (hr : r ∈ rs) : Rd w r.1 r.2.2 := fun hx => by
  obtain ⟨_, h1, a, f, h2, rfl, ⟨ha, ha2⟩, hf⟩ := h.hp
  obtain ⟨b, o, cs, t, fr, e, hb, hc⟩ := ha2 r hr (by simpa using hx)
  refine ⟨b, o, e, fun j hj => ?_⟩
  have := (h1 b (true, .cells cs t fr) (by unfold Hp.un; rw [hb]; rfl)).1
  rw [cell_of_row w b (o + j) cs t fr this]
  simpa using hc j (by simpa using hj)
theorem Sat.rolNil (h : Sat w0 F w) (rs : List Slc) (hn : ∀ r ∈ rs, r.2.2 = []) : Sat w0 (RoL rs * F) w :=
  (h.of (emp_star F).symm).mono fun x ⟨a, f, h1, h2, h3, h4⟩ => ⟨a, f, h1, h2, ⟨fun k y hy => (by unfold Emp at h3; rw [h3] at hy; cases hy), fun r hr hx => absurd (hn r hr) hx⟩, h4⟩
theorem rb_rol (r : Slc) : Rb r.1 r.2.2 = RoL [r] := by
  funext h
  unfold Rb Ro RoL
  refine propext ⟨fun ⟨h1, h2⟩ => ⟨h1, fun q hq hx => ?_⟩, fun ⟨h1, h2⟩ => ⟨h1, fun hx => ?_⟩⟩
  · simp at hq
    subst hq
    obtain ⟨b, o, cs, t, fr, e, hb, hc⟩ := h2 (by simpa using hx)
    exact ⟨b, o, cs, t, fr, e, hb, fun j hj => by have := hc j (by simpa using hj); rwa [List.getElem_map] at this⟩
  · obtain ⟨b, o, cs, t, fr, e, hb, hc⟩ := h2 r (by simp) (by simpa using hx)
    exact ⟨b, o, cs, t, fr, e, hb, fun j hj => by rw [List.getElem_map]; exact hc j (by simpa using hj)⟩
theorem Sat.rol_add (h : Sat w0 (RoL rs * (RoL rs' * F)) w) : Sat w0 (RoL (rs ++ rs') * F) w := h.of (by rw [← star_assoc, rol_app])
theorem Sat.rol_split (h : Sat w0 (RoL rs * F) w) : Sat w0 (RoL rs * (RoL rs * F)) w := h.of (by rw [← star_assoc, rol_dup])
end

theorem Sat.allocAt {w0 w : World} {F : SP} {b : Nat} (h : Sat w0 F w) (t : TypeId) (cs : Array Value) (hb : b = w.heap.size) : Sat w0 (Pt b t cs * F) (w.alloc (.cells cs t)) := by subst hb; exact h.allocPt t cs
/-- A row that make has made. -/
theorem bytes_row {w0 w : World} {F : SP} {g n : Nat} (h : Sat w0 (Pt g 5 (noughts n) * F) w) (hn : n ≤ maxLen) : Sat w0 (Row 5 1 (.slice (some ⟨g, 0, none⟩) n n) (List.replicate n (0 : UInt8)).length ((List.replicate n (0 : UInt8)).map bv) * F) w := by
  have h1 := h.row_pt (n := n) (cap := n) (size := 1) (Nat.le_refl _) hn (by simp [noughts])
  have e : (noughts n).toList.take (n * 1) = (List.replicate n (0 : UInt8)).map bv := by
    unfold noughts
    rw [Nat.mul_one]
    exact List.take_of_length_le (by simp)
  rw [e] at h1
  rw [List.length_replicate]
  exact h1
theorem flat2 {α : Type} {f : α → List Value} (hf : ∀ x, (f x).length = 2) : ∀ (l : List α) (i j : Nat) (hi : i < l.length) (hj : j < 2), (l.flatMap f)[i * 2 + j]? = (f l[i])[j]?
  | [], i, j, hi, hj => by simp at hi
  | x :: l, 0, j, hi, hj => by
    rw [List.flatMap_cons, Nat.zero_mul, Nat.zero_add, List.getElem?_append_left (by rw [hf]; exact hj)]; rfl
  | x :: l, i + 1, j, hi, hj => by
    rw [List.flatMap_cons, List.getElem?_append_right (by rw [hf]; omega), hf]
    have := flat2 hf l i j (by simpa using hi) hj
    rw [show (i + 1) * 2 + j - 2 = i * 2 + j by omega, this]
    rfl
theorem flat2_len {α : Type} {f : α → List Value} (hf : ∀ x, (f x).length = 2) : ∀ (l : List α), (l.flatMap f).length = l.length * 2
  | [] => rfl
  | x :: l => by rw [List.flatMap_cons, List.length_append, hf, flat2_len hf l, List.length_cons]; omega
theorem flat2_set {α : Type} {f : α → List Value} (hf : ∀ x, (f x).length = 2) : ∀ (l : List α) (i : Nat) (x : α) (u v : Value), f x = [u, v] → i < l.length →
    ((l.flatMap f).toArray.setIfInBounds (i * 2) u).setIfInBounds (i * 2 + 1) v = ((l.set i x).flatMap f).toArray := by
  intro l i x u v hx hi
  apply Array.ext'
  apply List.ext_getElem?
  intro j
  have hl := flat2_len hf l
  have hl2 := flat2_len hf (l.set i x)
  rw [List.length_set] at hl2
  by_cases hj : j < l.length * 2
  · have h1 := flat2 hf l (j / 2) (j % 2) (by omega) (by omega)
    have h2 := flat2 hf (l.set i x) (j / 2) (j % 2) (by rw [List.length_set]; omega) (by omega)
    rw [show j / 2 * 2 + j % 2 = j by omega] at h1 h2
    simp only [List.setIfInBounds_toArray, List.getElem?_set, List.length_set, hl]
    rw [h2, h1, List.getElem_set]
    by_cases e : i = j / 2
    · rw [if_pos e, hx]
      rcases Nat.mod_two_eq_zero_or_one j with q | q
      · rw [if_neg (by omega), if_pos (by omega), if_pos (by omega), q]; rfl
      · rw [if_pos (by omega), if_pos (by omega), q]; rfl
    · rw [if_neg e, if_neg (by omega), if_neg (by omega)]
  · simp only [List.setIfInBounds_toArray]
    rw [List.getElem?_eq_none (by simp only [List.length_set]; omega), List.getElem?_eq_none (by omega)]
end Go.Proofs.Ytjmapbhgjhlefaa
namespace Go.Proofs.Ytjmapbhgjhlefaa
open Go.RowKit
set_option linter.unusedVariables false
set_option maxRecDepth 100000

/-- What a disk is. A block's bytes: none stands for noughts. -/
structure Dk where
  cells : List (List UInt8 × Bool)
  pend : List (Nat × List UInt8)
  armed : Nat
  writes : Nat
  off : Bool
def slv (s : Slc) : Value := .slice s.1 s.2.2.length s.2.1
def cellV (x : Slc × Bool) : List Value := [slv x.1, .bool x.2]
def pendV (x : Nat × Slc) : List Value := [.int .i64 x.1, slv x.2]
/-- The slice of the last write that is pending to a block. -/
def lastOf (ps : List (Nat × Slc)) : Int → Option Value := fun i => ((ps.reverse.find? fun x => ((x.1 : Nat) : Int) == i).map fun x => slv x.2)
def fit (s : Slc) : Prop := (s.1 = none → s.2.2 = [] ∧ s.2.1 = 0) ∧ (s.2.2 = [] → s.1 = none) ∧ s.2.2.length ≤ s.2.1 ∧ s.2.1 ≤ 9223372036854775807
structure Rep (D : Dk) (cs : List (Slc × Bool)) (ps : List (Nat × Slc)) : Prop where
  cells : D.cells = cs.map fun x => (x.1.2.2, x.2)
  pend : D.pend = ps.map fun x => (x.1, x.2.2.2)
  fitc : ∀ x ∈ cs, fit x.1 ∧ (x.1.2.2 = [] ∨ x.1.2.2.length = 512)
  fitp : ∀ x ∈ ps, fit x.2 ∧ x.2.2.2.length = 512 ∧ x.1 < cs.length
  two : 2 ≤ cs.length
  most : cs.length ≤ 65536
/-- A disk whose parts are told one by one. -/
def DiskC (d C cc M nm : Nat) (vp : Value) (cs : List (Slc × Bool)) (ps : List (Nat × Slc)) (armed writes : Nat) (off : Bool) : SP :=
  Pt d 98 #[.slice (some ⟨C, 0, none⟩) cs.length cc, vp, .map (some M), .int .i64 armed, .int .i64 writes, .bool off] *
  (Row 119 2 (.slice (some ⟨C, 0, none⟩) cs.length cc) cs.length (cs.flatMap cellV) *
  (Row 117 2 vp ps.length (ps.flatMap pendV) *
  (MapP Try.prog 3 M nm (lastOf ps) *
  RoL (cs.map (·.1) ++ ps.map (·.2)))))
def Disk (d : Nat) (D : Dk) : SP := fun h => ∃ C cc M nm vp cs ps, Rep D cs ps ∧ nm ≤ ps.length ∧ DiskC d C cc M nm vp cs ps D.armed D.writes D.off h
section
variable {w0 w : World} {F : SP} {d C cc M nm armed writes : Nat} {vp : Value} {cs : List (Slc × Bool)} {ps : List (Nat × Slc)} {off : Bool} {D : Dk}
theorem Sat.disk (h : Sat w0 (Disk d D * F) w) : ∃ C cc M nm vp cs ps, Rep D cs ps ∧ nm ≤ ps.length ∧ Sat w0 (DiskC d C cc M nm vp cs ps D.armed D.writes D.off * F) w := by
  obtain ⟨c, x, h1, a, g, h2, h3, ⟨C, cc, M, nm, vp, cs, ps, h4, h5, h6⟩, h8⟩ := h
  exact ⟨C, cc, M, nm, vp, cs, ps, h4, h5, ⟨c, x, h1, a, g, h2, h3, h6, h8⟩⟩
theorem Sat.diskI (h : Sat w0 (DiskC d C cc M nm vp cs ps D.armed D.writes D.off * F) w) (hr : Rep D cs ps) (hn : nm ≤ ps.length) : Sat w0 (Disk d D * F) w := by
  obtain ⟨c, x, h1, a, g, h2, h3, h6, h8⟩ := h
  exact ⟨c, x, h1, a, g, h2, h3, ⟨C, cc, M, nm, vp, cs, ps, hr, hn, h6⟩, h8⟩
/-- The disk's own block ahead. -/
theorem disk_d : DiskC d C cc M nm vp cs ps armed writes off * F = Pt d 98 #[.slice (some ⟨C, 0, none⟩) cs.length cc, vp, .map (some M), .int .i64 armed, .int .i64 writes, .bool off] *
  (Row 119 2 (.slice (some ⟨C, 0, none⟩) cs.length cc) cs.length (cs.flatMap cellV) * (Row 117 2 vp ps.length (ps.flatMap pendV) * (MapP Try.prog 3 M nm (lastOf ps) * (RoL (cs.map (·.1) ++ ps.map (·.2)) * F)))) := by
  unfold DiskC; ac_rfl
end
end Go.Proofs.Ytjmapbhgjhlefaa
namespace Go.Proofs.Ytjmapbhgjhlefaa
open Go.RowKit
set_option linter.unusedVariables false
set_option maxRecDepth 100000

section
variable {P : Program} {w0 w : World} {F : SP} {ops : Array Oper} {o : Oper} {a : Act}
theorem Sat.row_sl {e : TypeId} {size n : Nat} {v : Value} {xs : List Value} (h : Sat w0 (Row e size v n xs * F) w) : ∃ A c, v = .slice A n c ∧ n ≤ c ∧ c ≤ maxLen := by
  obtain ⟨_, ⟨e1, e2, _⟩ | ⟨g, cap, cur, e1, h1, h2, _⟩⟩ := h.row_cases
  · exact ⟨none, 0, by rw [e1, e2], by omega, Nat.zero_le _⟩
  · exact ⟨_, _, e1, h1, h2⟩
/-- A row that is not empty: its head, its cells. -/
theorem Sat.row_at {e : TypeId} {size n : Nat} {A : Option Addr} {c : Nat} {xs : List Value} (h : Sat w0 (Row e size (.slice A n c) n xs * F) w) (hn : 0 < n) :
    ∃ g, A = some ⟨g, 0, none⟩ ∧ ∀ j (hj : j < xs.length), w.cell? ⟨g, j, none⟩ = some xs[j] := by
  obtain ⟨hl, ⟨_, e2, _⟩ | ⟨g, cap, cur, e1, h1, h2, h3, h4, h5⟩⟩ := h.row_cases
  · omega
  · injection e1 with e1 _ e3
    refine ⟨g, e1, fun j hj => ?_⟩
    rw [h5.cell]
    have h6 : xs[j]? = some xs[j] := List.getElem?_eq_getElem hj
    rw [← h6, ← h4, List.getElem?_take, if_pos (by omega)]
    simp
theorem Sat.row_setj {e : TypeId} {size n c g j : Nat} {xs : List Value} (h : Sat w0 (Row e size (.slice (some ⟨g, 0, none⟩) n c) n xs * F) w) (u : Value) :
    Sat w0 (Row e size (.slice (some ⟨g, 0, none⟩) n c) n (xs.set j u) * F) (w.setCell ⟨g, j, none⟩ u) := by
  obtain ⟨hl, ⟨e1, e2, _⟩ | ⟨g', cap, cur, e1, h1, h2, h3, h4, h5⟩⟩ := h.row_cases
  · cases e1
  · injection e1 with e1 _ e3
    injection e1 with e1
    injection e1 with e1
    subst e1; subst e3
    have h6 := (h5.set j u).row_pt (n := n) (cap := c) (size := size) h1 h2 (by simpa using h3)
    have e : (cur.setIfInBounds j u).toList.take (n * size) = xs.set j u := by rw [Array.toList_setIfInBounds, List.take_set, h4]
    rwa [e] at h6
theorem Sat.row_free {e : TypeId} {size n c g : Nat} {xs : List Value} (h : Sat w0 (Row e size (.slice (some ⟨g, 0, none⟩) n c) n xs * F) w) (j : Nat) : w.frozen? ⟨g, j, none⟩ = false := by
  obtain ⟨hl, ⟨e1, e2, _⟩ | ⟨g', cap, cur, e1, h1, h2, h3, h4, h5⟩⟩ := h.row_cases
  · cases e1
  · injection e1 with e1 _ e3
    injection e1 with e1
    injection e1 with e1
    subst e1
    exact h5.frozen j
theorem Sat.row_cell {e : TypeId} {size n c g : Nat} {xs : List Value} (h : Sat w0 (Row e size (.slice (some ⟨g, 0, none⟩) n c) n xs * F) w) {j : Nat} (hj : j < xs.length) : w.cell? ⟨g, j, none⟩ = some xs[j] := by
  obtain ⟨hl, ⟨e1, e2, _⟩ | ⟨g', cap, cur, e1, h1, h2, h3, h4, h5⟩⟩ := h.row_cases
  · cases e1
  · injection e1 with e1 _ e3
    injection e1 with e1
    injection e1 with e1
    subst e1
    rw [h5.cell]
    have h6 : xs[j]? = some xs[j] := List.getElem?_eq_getElem hj
    rw [← h6, ← h4, List.getElem?_take, if_pos (by omega)]
    simp
theorem run_appS (t ty e : TypeId) (i : TypeInfo) (z : Value) (size bytes : Nat) (ht : P.underlying t = some (.slice e)) (hi : P.info? e = some i) (hz : i.zero = some z)
    (hsize : i.size = size) (hby : i.bytes = bytes) (hzs : z.cells.size = size) (hsz : 0 < size)
    (v : Value) (n : Nat) (xs : List Value) (hS : Sat w0 (Row e size v n xs * F) w)
    (A : Option Addr) (m c : Nat) (news : List Value) (hr : RdV w A news) (hm : news.length = m * size) (h1 : ∀ u ∈ news, u.oneCell' = true)
    (h63 : n + m ≤ maxLen) (hbytes : (n + m) * bytes ≤ 140737488355328) :
    ∃ A' c' w', (Builtin.append_ #[t, t] ty #[v, .slice A m c]).run P w = .ok (.slice A' (n + m) c') w' ∧ Sat w0 (Row e size (.slice A' (n + m) c') (n + m) (xs ++ news) * F) w' := by
  obtain ⟨v', w', hrun, h2⟩ := run_app (P := P) w0.heap.size t ty e i z size bytes ht hi hz hsize hby hzs hsz v n xs hS.row_own A m c news hr hm h1 h63 hbytes hS.size
  have h3 := hS.appd h2
  obtain ⟨A', c', rfl, _⟩ := h3.row_sl
  exact ⟨A', c', w', hrun, h3⟩
theorem wpList_appS {rest : List Oper} {Q : Exit → Act → World → Prop} (hgd : o.guard = none) (s x : Operand) (t : TypeId)
    (ho : o.op = .call { callee := .builtin .append, args := #[s, x], argTypes := #[t, t] })
    (e : TypeId) (i : TypeInfo) (z : Value) (size bytes : Nat) (ht : P.underlying t = some (.slice e)) (hi : P.info? e = some i) (hz : i.zero = some z)
    (hsize : i.size = size) (hby : i.bytes = bytes) (hzs : z.cells.size = size) (hsz : 0 < size)
    (v : Value) (n : Nat) (xs : List Value) (hs : a.eval s = v) (w0 : World) (F : SP) (hS : Sat w0 (Row e size v n xs * F) w)
    (A : Option Addr) (m c : Nat) (news : List Value) (hx : a.eval x = .slice A m c) (hr : RdV w A news) (hm : news.length = m * size) (h1 : ∀ u ∈ news, u.oneCell' = true)
    (h63 : n + m ≤ maxLen) (hbytes : (n + m) * bytes ≤ 140737488355328)
    (h : ∀ A' c' w', Sat w0 (Row e size (.slice A' (n + m) c') (n + m) (xs ++ news) * F) w' → wpList P ops Q rest (a.put o.dst (.slice A' (n + m) c')) w') : wpList P ops Q (o :: rest) a w := by
  refine wpList_plain hgd fun K hK => ?_
  obtain ⟨A', c', w', hrun, h2⟩ := run_appS (P := P) t o.type e i z size bytes ht hi hz hsize hby hzs hsz v n xs hS A m c news hr hm h1 h63 hbytes
  unfold Oper.wp execOp
  simp only [ho, resolve, invoke, builtin, Sem.run_bind, Sem.run_pure, Result.andThen_ok, List.map_toArray, List.map_cons, List.map_nil, hs, hx, hrun]
  exact hK _ _ (h _ _ _ h2)
theorem step_appS {K : Act → World → Prop} {Q : Exit → Act → World → Prop} {E : Prop} (hgd : o.guard = none) (s x : Operand) (t : TypeId)
    (ho : o.op = .call { callee := .builtin .append, args := #[s, x], argTypes := #[t, t] })
    (e : TypeId) (i : TypeInfo) (z : Value) (size bytes : Nat) (ht : P.underlying t = some (.slice e)) (hi : P.info? e = some i) (hz : i.zero = some z)
    (hsize : i.size = size) (hby : i.bytes = bytes) (hzs : z.cells.size = size) (hsz : 0 < size)
    (v : Value) (n : Nat) (xs : List Value) (hs : a.eval s = v) (w0 : World) (F : SP) (hS : Sat w0 (Row e size v n xs * F) w)
    (A : Option Addr) (m c : Nat) (news : List Value) (hx : a.eval x = .slice A m c) (hr : RdV w A news) (hm : news.length = m * size) (h1 : ∀ u ∈ news, u.oneCell' = true)
    (h63 : n + m ≤ maxLen) (hbytes : (n + m) * bytes ≤ 140737488355328)
    (h : ∀ A' c' w', Sat w0 (Row e size (.slice A' (n + m) c') (n + m) (xs ++ news) * F) w' → K (a.put o.dst (.slice A' (n + m) c')) w') :
    if Region.wanted o (yielded ops a.tmps) = true then Oper.wp P o a w K Q else E := by
  have hw : Region.wanted o (yielded ops a.tmps) = true := by simp [Region.wanted, hgd]
  rw [if_pos hw]
  obtain ⟨A', c', w', hrun, h2⟩ := run_appS (P := P) t o.type e i z size bytes ht hi hz hsize hby hzs hsz v n xs hS A m c news hr hm h1 h63 hbytes
  unfold Oper.wp execOp
  simp only [ho, resolve, invoke, builtin, Sem.run_bind, Sem.run_pure, Result.andThen_ok, List.map_toArray, List.map_cons, List.map_nil, hs, hx, hrun]
  exact h _ _ _ h2
/-- What append(x, one) adds lies in a block that has just been laid. -/
theorem lit_rdv (w : World) (cs : Array Value) (t : TypeId) : RdV (w.alloc (.cells cs t)) (some ⟨w.heap.size, 0, none⟩) cs.toList := RdV.lit w cs t (0, 0)
end
end Go.Proofs.Ytjmapbhgjhlefaa
namespace Go.Proofs.Ytjmapbhgjhlefaa
open Go.RowKit
set_option linter.unusedVariables false
set_option maxRecDepth 100000

/-- Why a block can't be asked for. -/
def Dk.ask (D : Dk) (i : Int) : Int := if D.off then 21 else if 0 ≤ i ∧ i < D.cells.length then 0 else 22
theorem Dk.ask_ok {D : Dk} {i : Int} (h1 : D.off = false) (h2 : 0 ≤ i) (h3 : i < D.cells.length) : D.ask i = 0 := by unfold Dk.ask; rw [if_neg (by simp [h1]), if_pos ⟨h2, h3⟩]
structure Head (w : World) (d C cc : Nat) (cs : List (Slc × Bool)) (vp : Value) (M armed writes : Nat) (off : Bool) : Prop where
  c0 : w.cell? ⟨d, 0, none⟩ = some (.slice (some ⟨C, 0, none⟩) cs.length cc)
  c1 : w.cell? ⟨d, 1, none⟩ = some vp
  c2 : w.cell? ⟨d, 2, none⟩ = some (.map (some M))
  c3 : w.cell? ⟨d, 3, none⟩ = some (.int .i64 armed)
  c4 : w.cell? ⟨d, 4, none⟩ = some (.int .i64 writes)
  c5 : w.cell? ⟨d, 5, none⟩ = some (.bool off)
section
variable {w0 w : World} {F : SP} {d C cc M nm armed writes : Nat} {vp : Value} {cs : List (Slc × Bool)} {ps : List (Nat × Slc)} {off : Bool} {D : Dk}
theorem Sat.head (h : Sat w0 (DiskC d C cc M nm vp cs ps armed writes off * F) w) : Head w d C cc cs vp M armed writes off := by
  have h1 := h.of disk_d
  exact ⟨h1.cell 0, h1.cell 1, h1.cell 2, h1.cell 3, h1.cell 4, h1.cell 5⟩
/-- The cells of one block. -/
theorem Sat.cellsAt (h : Sat w0 (DiskC d C cc M nm vp cs ps armed writes off * F) w) {k : Nat} (hk : k < cs.length) : w.cell? ⟨C, k * 2, none⟩ = some (slv cs[k].1) ∧ w.cell? ⟨C, k * 2 + 1, none⟩ = some (.bool cs[k].2) := by
  have h1 := (h.of disk_d).up2
  have hl := flat2_len (f := cellV) (fun _ => rfl) cs
  have e0 := flat2 (f := cellV) (fun _ => rfl) cs k 0 hk (by omega)
  have e1 := flat2 (f := cellV) (fun _ => rfl) cs k 1 hk (by omega)
  rw [List.getElem?_eq_getElem (by omega)] at e0 e1
  refine ⟨?_, ?_⟩
  · rw [h1.row_cell (j := k * 2) (by omega)]; exact e0
  · rw [h1.row_cell (j := k * 2 + 1) (by omega)]; exact e1
theorem Sat.cellsFree (h : Sat w0 (DiskC d C cc M nm vp cs ps armed writes off * F) w) (i : Nat) : w.frozen? ⟨C, i, none⟩ = false := ((h.of disk_d).up2).row_free i
theorem Sat.headF (h : Sat w0 (DiskC d C cc M nm vp cs ps armed writes off * F) w) (i : Nat) : w.frozen? ⟨d, i, none⟩ = false := (h.of disk_d).frozen i
end
section
variable {w0 w : World} {F : SP} {d C cc M nm armed writes : Nat} {vp : Value} {cs : List (Slc × Bool)} {ps : List (Nat × Slc)} {off : Bool} {D : Dk}
theorem Sat.setArmed (h : Sat w0 (DiskC d C cc M nm vp cs ps armed writes off * F) w) (a : Nat) {x : Int} (hx : x = a) : Sat w0 (DiskC d C cc M nm vp cs ps a writes off * F) (w.setCell ⟨d, 3, none⟩ (.int .i64 x)) := by
  subst hx
  exact (((h.of disk_d).set 3 (.int .i64 a)).of (disk_d (F := F) (d := d) (C := C) (cc := cc) (M := M) (nm := nm) (vp := vp) (cs := cs) (ps := ps) (armed := a) (writes := writes) (off := off)).symm)
theorem Sat.setWrites (h : Sat w0 (DiskC d C cc M nm vp cs ps armed writes off * F) w) (a : Nat) {x : Int} (hx : x = a) : Sat w0 (DiskC d C cc M nm vp cs ps armed a off * F) (w.setCell ⟨d, 4, none⟩ (.int .i64 x)) := by
  subst hx
  exact (((h.of disk_d).set 4 (.int .i64 a)).of (disk_d (F := F) (d := d) (C := C) (cc := cc) (M := M) (nm := nm) (vp := vp) (cs := cs) (ps := ps) (armed := armed) (writes := a) (off := off)).symm)
theorem Sat.setOff (h : Sat w0 (DiskC d C cc M nm vp cs ps armed writes off * F) w) (a : Bool) : Sat w0 (DiskC d C cc M nm vp cs ps armed writes a * F) (w.setCell ⟨d, 5, none⟩ (.bool a)) :=
  (((h.of disk_d).set 5 (.bool a)).of (disk_d (F := F) (d := d) (C := C) (cc := cc) (M := M) (nm := nm) (vp := vp) (cs := cs) (ps := ps) (armed := armed) (writes := writes) (off := a)).symm)
end
theorem asked_any (d : Nat) (D : Dk) (i : Int) (w0 w : World) (F : SP) (h : Sat w0 (Disk d D * F) w) :
    Calls Try.prog 91 #[.pointer (some ⟨d, 0, none⟩), .int .i64 i] w fun e w' => e = .returned (.int .i64 (D.ask i)) ∧ w = w' := by
  obtain ⟨C, cc, M, nm, vp, cs, ps, hr, hn, hs⟩ := h.disk
  have hc0 := hs.head.c0
  have hc5 := hs.head.c5
  have hl : D.cells.length = cs.length := by rw [hr.cells]; simp
  have H1 : Hid (D.ask i = if D.off then 21 else if 0 ≤ i ∧ i < cs.length then 0 else 22) := by unfold Dk.ask Hid; rw [hl]
  clear hr hn hs h hl
  by_cases ho : D.off = true
  · rw [ho] at hc5
    have HO := Lib.hid ho
    clear ho
    go_enter Try.func91, Try.ntmps91
    go_wp2
    go_ret
    exact ⟨by rw [H1.out, if_pos HO.out]; rfl, rfl⟩
  · have ho' : D.off = false := by simpa using ho
    rw [ho'] at hc5
    have HO := Lib.hid ho
    clear ho ho'
    by_cases h1 : i < 0
    · go_enter Try.func91, Try.ntmps91
      go_wp2
      go_ret
      exact ⟨by rw [H1.out, if_neg HO.out, if_neg (by omega)]; rfl, rfl⟩
    · by_cases h2 : (cs.length : Int) ≤ i
      · go_enter Try.func91, Try.ntmps91
        go_wp2
        go_ret
        exact ⟨by rw [H1.out, if_neg HO.out, if_neg (by omega)]; rfl, rfl⟩
      · go_enter Try.func91, Try.ntmps91
        go_wp2
        go_ret
        exact ⟨by rw [H1.out, if_neg HO.out, if_pos (by omega)]; rfl, rfl⟩
theorem blocks_any (d : Nat) (D : Dk) (w0 w : World) (F : SP) (h : Sat w0 (Disk d D * F) w) :
    Calls Try.prog 33 #[.pointer (some ⟨d, 0, none⟩)] w fun e w' => e = .returned (.int .i64 D.cells.length) ∧ w = w' := by
  obtain ⟨C, cc, M, nm, vp, cs, ps, hr, hn, hs⟩ := h.disk
  have hc0 := hs.head.c0
  have HL : Hid (D.cells.length = cs.length) := by rw [hr.cells]; unfold Hid; simp
  clear hr hn hs h
  go_enter Try.func33, Try.ntmps33
  go_wp2
  go_ret
  exact ⟨by rw [HL.out]; rfl, rfl⟩
theorem off_any (d : Nat) (D : Dk) (w0 w : World) (F : SP) (h : Sat w0 (Disk d D * F) w) :
    Calls Try.prog 44 #[.pointer (some ⟨d, 0, none⟩)] w fun e w' => e = .returned (.bool D.off) ∧ w = w' := by
  obtain ⟨C, cc, M, nm, vp, cs, ps, hr, hn, hs⟩ := h.disk
  have hc5 := hs.head.c5
  clear hr hn hs h
  go_enter Try.func44, Try.ntmps44
  go_wp2
  go_ret
  exact ⟨rfl, rfl⟩
theorem cut_any (d : Nat) (D : Dk) (w0 w : World) (F : SP) (h : Sat w0 (Disk d D * F) w) :
    Calls Try.prog 21 #[.pointer (some ⟨d, 0, none⟩)] w fun e w' => e = .returned (.tuple #[]) ∧ Sat w0 (Disk d { D with off := true } * F) w' := by
  obtain ⟨C, cc, M, nm, vp, cs, ps, hr, hn, hs⟩ := h.disk
  have hc5 := hs.head.c5
  have hf5 := hs.headF 5
  have HE : Hid (Sat w0 (Disk d { D with off := true } * F) (w.setCell ⟨d, 5, none⟩ (.bool true))) :=
    Sat.diskI (((hs.of disk_d).set 5 (.bool true)).of disk_d.symm) ⟨hr.cells, hr.pend, hr.fitc, hr.fitp, hr.two, hr.most⟩ hn
  clear hr hn hs h
  go_enter Try.func21, Try.ntmps21
  go_wp2
  go_end0
  exact ⟨rfl, HE.out⟩
theorem arm_any (d : Nat) (D : Dk) (k : Int) (w0 w : World) (F : SP) (h : Sat w0 (Disk d D * F) w) :
    Calls Try.prog 18 #[.pointer (some ⟨d, 0, none⟩), .int .i64 k] w fun e w' => e = .returned (.tuple #[]) ∧ Sat w0 (Disk d { D with armed := k.toNat } * F) w' := by
  obtain ⟨C, cc, M, nm, vp, cs, ps, hr, hn, hs⟩ := h.disk
  have hc3 := hs.head.c3
  have hf3 := hs.headF 3
  have HE : Hid (Sat w0 (Disk d { D with armed := k.toNat } * F) (w.setCell ⟨d, 3, none⟩ (.int .i64 (k.toNat : Int)))) :=
    Sat.diskI (((hs.of disk_d).set 3 (.int .i64 (k.toNat : Int))).of disk_d.symm) ⟨hr.cells, hr.pend, hr.fitc, hr.fitp, hr.two, hr.most⟩ hn
  clear hr hn hs h
  by_cases h1 : 0 ≤ k
  · have e : ((k.toNat : Nat) : Int) = k := by omega
    rw [e] at HE
    clear e
    go_enter Try.func18, Try.ntmps18
    go_wp2
    all_goals
      go_end0
      exact ⟨rfl, HE.out⟩
  · have e : ((k.toNat : Nat) : Int) = 0 := by omega
    rw [e] at HE
    clear e
    go_enter Try.func18, Try.ntmps18
    go_wp2
    all_goals
      go_end0
      exact ⟨rfl, HE.out⟩
theorem settled_any (d : Nat) (D : Dk) (w0 w : World) (F : SP) (h : Sat w0 (Disk d D * F) w) :
    Calls Try.prog 67 #[.pointer (some ⟨d, 0, none⟩)] w fun e w' => e = .returned (.tuple #[]) ∧ Sat w0 (Disk d { D with pend := [] } * F) w' := by
  obtain ⟨C, cc, M, nm, vp, cs, ps, hr, hn, hs⟩ := h.disk
  have hc1 := hs.head.c1
  have hc2 := hs.head.c2
  have hf1 := hs.headF 1
  have h1 := (hs.of disk_d).set 1 (.slice none 0 0)
  have h2 := h1.up4
  obtain ⟨w2, hrun, hs2, _⟩ := h2.map_clear (t := 95) Try.underlying95 0
  have HE : Hid (Sat w0 (Disk d { D with pend := [] } * F) w2) := by
    have h3 := hs2.dn4.up3.right.up4.rol_sub (rs' := cs.map (·.1) ++ ([] : List (Nat × Slc)).map (·.2)) (fun r hr => List.mem_append_left _ (by simpa using hr))
    have h4 := (h3.dn4.row_nil 117 2).dn3
    exact Sat.diskI (D := { D with pend := [] }) (ps := []) (h4.of (disk_d (F := F) (d := d) (C := C) (cc := cc) (M := M) (nm := 0) (vp := .slice none 0 0) (cs := cs) (ps := []) (armed := D.armed) (writes := D.writes) (off := D.off)).symm) ⟨hr.cells, rfl, hr.fitc, by simp, hr.two, hr.most⟩ (Nat.le_refl _)
  clear hr hn hs h h1 h2 hs2
  go_enter Try.func67, Try.ntmps67
  go_wp2
  go_end0
  exact ⟨rfl, HE.out⟩
end Go.Proofs.Ytjmapbhgjhlefaa
namespace Go.Proofs.Ytjmapbhgjhlefaa
open Go.RowKit
set_option linter.unusedVariables false
set_option maxRecDepth 100000

/-- The bytes of the last write that is pending to a block. -/
def Dk.last (D : Dk) (i : Int) : Option (List UInt8) := (D.pend.reverse.find? fun x => ((x.1 : Nat) : Int) == i).map fun x => x.2
def Dk.read (D : Dk) (i : Int) : List UInt8 × Int :=
  if D.ask i = 0 then
    match D.last i with
    | some b => (b, 0)
    | none => match D.cells[i.toNat]? with
      | some (b, t) => if t then ([], 24) else if b = [] then (List.replicate 512 0, 0) else (b, 0)
      | none => ([], 0)
  else ([], D.ask i)
theorem lastOf_map (ps : List (Nat × Slc)) (i : Int) : ((ps.map fun x => (x.1, x.2.2.2)).reverse.find? fun x => ((x.1 : Nat) : Int) == i) = (ps.reverse.find? fun x => ((x.1 : Nat) : Int) == i).map fun x => (x.1, x.2.2.2) := by
  rw [← List.map_reverse, List.find?_map]
  rfl
theorem zero_sl (w : World) : (zeroValue 39).run Try.prog w = .ok (.slice none 0 0) w := by kernel_rfl
def ReadD (d : Nat) (D : Dk) (i : Int) (w0 : World) (F : SP) (e : Ending) (w' : World) : Prop :=
  ∃ v, e = .returned (.tuple #[v, .int .i64 (D.read i).2]) ∧ Sat w0 (Row 5 1 v (D.read i).1.length ((D.read i).1.map bv) * (Disk d D * F)) w'
theorem read_any (d : Nat) (D : Dk) (i : Int) (w0 w : World) (F : SP) (h : Sat w0 (Disk d D * F) w) :
    Calls Try.prog 81 #[.pointer (some ⟨d, 0, none⟩), .int .i64 i] w (ReadD d D i w0 F) := by
  have HA := Lib.hid (asked_any d D i w0 w F h)
  obtain ⟨C, cc, M, nm, vp, cs, ps, hr, hn, hs⟩ := h.disk
  have HH := Lib.hid h
  by_cases h0 : D.ask i = 0
  · have hb : 0 ≤ i ∧ i < cs.length ∧ D.off = false := by
      unfold Dk.ask at h0
      have : D.cells.length = cs.length := by rw [hr.cells]; simp
      rw [this] at h0
      split at h0
      · omega
      · split at h0
        · rename_i h1 h2; exact ⟨h2.1, h2.2, by simpa using h1⟩
        · omega
    obtain ⟨hb1, hb2, _⟩ := hb
    obtain ⟨k, rfl⟩ : ∃ k : Nat, i = k := ⟨i.toNat, by omega⟩
    have hk : k < cs.length := by omega
    have HR : Hid (D.read k = match D.last k with
      | some b => (b, 0)
      | none => if cs[k].2 then ([], 24) else if cs[k].1.2.2 = [] then (List.replicate 512 0, 0) else (cs[k].1.2.2, 0)) := by
      unfold Hid Dk.read
      rw [if_pos h0, hr.cells]
      have e : (List.map (fun x : Slc × Bool => (x.1.2.2, x.2)) cs)[(k : Int).toNat]? = some (cs[k].1.2.2, cs[k].2) := by rw [Int.toNat_natCast, List.getElem?_map, List.getElem?_eq_getElem hk]; rfl
      rw [e]
    have HL : Hid (D.last k = (ps.reverse.find? fun x => ((x.1 : Nat) : Int) == k).map fun x => x.2.2.2) := by
      unfold Hid Dk.last
      rw [hr.pend, lastOf_map]
      cases (ps.reverse.find? fun x => ((x.1 : Nat) : Int) == k) <;> rfl
    have hc0 := hs.head.c0
    have hc2 := hs.head.c2
    have hm := (hs.of disk_d).up4
    have hl := Sat.map_look hm Try.underlying3 (t := 95) Try.underlying95 (zero_sl w) k (by have := hr.most; omega)
    have hx := hr.fitc cs[k] (List.getElem_mem hk)
    obtain ⟨q0, q1⟩ := hs.cellsAt hk
    have HRd := Lib.hid fun (r : Slc) (hr : r ∈ cs.map (·.1) ++ ps.map (·.2)) => (hs.of disk_d).up5.rol hr
    have HFp := Lib.hid hr.fitp
    have HK := Lib.hid (List.getElem_mem hk)
    have HX := Lib.hid hx
    have H0 := Lib.hid h0
    have hnil := fun (W : World) (A : Option Addr) (n c : Nat) => run_neq_slice_nil_any (P := Try.prog) W 39 5 A n c 0 0 Try.underlying39
    clear hr hn hs h hx hm h0
    generalize cs[k] = x at *
    obtain ⟨⟨Ax, cx, lx⟩, tx⟩ := x
    simp only [slv] at q0 q1
    unfold lastOf at hl
    cases hf : ps.reverse.find? fun x => ((x.1 : Nat) : Int) == k with
    | some p =>
      rw [hf] at hl HL
      simp only [Option.map_some, Option.getD_some, Option.isSome_some, slv] at hl
      have hp : p ∈ ps := by have := List.mem_of_find?_eq_some hf; simpa using this
      have HP : Hid (D.read k = (p.2.2.2, 0)) := by have h1 := HR.out; rw [show D.last k = some p.2.2.2 from HL.out] at h1; exact h1
      have HC := Lib.hid (clone_any p.2.1 p.2.2.1 p.2.2.2 w (HRd.out p.2 (List.mem_append_right _ (List.mem_map_of_mem hp))) (by have := (HFp.out p hp).2.1; omega))
      clear hf hp
      generalize p.2 = y at *
      obtain ⟨Ay, cy, ly⟩ := y
      go_enter Try.func81, Try.ntmps81
      go_wp2_with fail
      refine HA.out.mono ?_
      rintro e w' ⟨rfl, rfl⟩
      rw [H0.out]
      go_wp2_with fail
      refine HC.out.mono ?_
      rintro e w' ⟨v, rfl, hown, _, hchg⟩
      have HO := Lib.hid hown
      have HG := Lib.hid hchg
      clear hown hchg
      go_wp2_with fail
      go_ret2
      refine ⟨v, by rw [HP.out]; rfl, ?_⟩
      rw [HP.out]
      exact HH.out.gotRow HG.out HO.out
    | none =>
      rw [hf] at hl HL
      simp only [Option.map_none, Option.getD_none, Option.isSome_none] at hl
      have HL2 : Hid (D.last k = none) := HL.out
      clear HL hf
      cases tx with
      | true =>
        have HP : Hid (D.read k = ([], 24)) := by have h1 := HR.out; rw [HL2.out] at h1; exact h1
        go_enter Try.func81, Try.ntmps81
        go_wp2_with fail
        refine HA.out.mono ?_
        rintro e w' ⟨rfl, rfl⟩
        rw [H0.out]
        go_wp2_with fail
        go_ret2
        refine ⟨.slice none 0 0, by rw [HP.out]; rfl, ?_⟩
        rw [HP.out]
        exact (HH.out.alloc' _).row_nil _ 1
      | false =>
        have hft := HX.out.1
        by_cases hn0 : lx = []
        · have HP : Hid (D.read k = (List.replicate 512 0, 0)) := by have h1 := HR.out; rw [HL2.out] at h1; simp only [Bool.false_eq_true, if_false] at h1; rw [if_pos hn0] at h1; exact h1
          obtain rfl : Ax = none := hft.2.1 hn0
          have HN := Lib.hid hn0
          have hmk := make_512
          clear hn0 hft
          go_enter Try.func81, Try.ntmps81
          go_wp2_with fail
          refine HA.out.mono ?_
          rintro e w' ⟨rfl, rfl⟩
          rw [H0.out]
          go_wp2_with fail
          go_ret2
          refine ⟨_, by rw [HP.out]; rfl, ?_⟩
          rw [HP.out]
          exact bytes_row ((HH.out.alloc' _).allocAt _ (noughts 512) (by simp)) (by decide)
        · have HP : Hid (D.read k = (lx, 0)) := by have h1 := HR.out; rw [HL2.out] at h1; simp only [Bool.false_eq_true, if_false] at h1; rw [if_neg hn0] at h1; exact h1
          rcases Ax with _ | ax
          · exact absurd (hft.1 rfl).1 hn0
          have HC := Lib.hid fun (W : World) (hW : Chg No w W) => clone_any (some ax) cx lx W ((HRd.out (some ax, cx, lx) (List.mem_append_left _ (List.mem_map_of_mem (f := Prod.fst) HK.out))).new hW) (by have := hft.2.2; have := HX.out.2; rcases this with h | h; exact absurd h hn0; show lx.length ≤ _; have h' : lx.length = 512 := h; omega)
          clear hn0 hft
          go_enter Try.func81, Try.ntmps81
          go_wp2_with fail
          refine HA.out.mono ?_
          rintro e w' ⟨rfl, rfl⟩
          rw [H0.out]
          go_wp2_with fail
          refine (HC.out _ ((Chg.refl No w).alloc _)).mono ?_
          rintro e w' ⟨v, rfl, hown, _, hchg⟩
          have HO := Lib.hid hown
          have HG := Lib.hid hchg
          clear hown hchg
          go_wp2_with fail
          go_ret2
          refine ⟨v, by rw [HP.out]; rfl, ?_⟩
          rw [HP.out]
          exact (HH.out.alloc' _).gotRow HG.out HO.out
  · go_enter Try.func81, Try.ntmps81
    have h0' : (D.ask i != 0) = true := by simpa using h0
    have H0 := Lib.hid h0
    clear h0 hr hn hs h
    go_wp2_with fail
    refine HA.out.mono ?_
    rintro e w' ⟨rfl, rfl⟩
    go_wp2_with fail
    go_ret2
    refine ⟨.slice none 0 0, ?_, ?_⟩
    · rw [Dk.read, if_neg H0.out]; rfl
    · rw [Dk.read, if_neg H0.out]
      exact HH.out.row_nil _ 1
end Go.Proofs.Ytjmapbhgjhlefaa
