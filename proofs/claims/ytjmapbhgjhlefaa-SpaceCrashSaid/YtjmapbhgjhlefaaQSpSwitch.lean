/- SpaceSwitch: the walk. -/
import Derived.Test.YtjmapbhgjhlefaaQ14
namespace Go.Proofs.Ytjmapbhgjhlefaa
open Go.RowKit
set_option linter.unusedVariables false
set_option maxRecDepth 100000

def sFive : List UInt8 := [102, 105, 118, 101]
def sNine : List UInt8 := [110, 105, 110, 101]
def ssS1 : Spc := ⟨0, 2, [⟨5, 2, 4, 2, 1, []⟩, ⟨9, 6, 3, 2, 1, []⟩]⟩
def ssS2 : Spc := ⟨0, 2, [⟨5, 2, 4, 2, 1, [sFive]⟩, ⟨9, 6, 3, 2, 1, []⟩]⟩
def ssS3 : Spc := ⟨0, 2, [⟨5, 2, 4, 2, 1, [sFive]⟩, ⟨9, 6, 3, 2, 1, [sNine]⟩]⟩
def ssAdd (a b : Nat) : List Fi := [⟨20, 0, a⟩, ⟨21, 0, b⟩]
def ssNew (a b : Nat) : List Fl := [⟨9, 6, 3, 2, 1, [sNine]⟩, ⟨20, 9, a, 3, 1, []⟩, ⟨21, 9 + a, b, 3, 1, []⟩]
/-- What is found behind the crash: the elder files, or the new ones. -/
def SsOld (S : Spc) : Prop := ∃ g h, S.files = [g, h] ∧ g.num = 5 ∧ h.num = 9 ∧ g.frames = [sFive] ∧ h.frames = [sNine]
def SsNew (a b : Nat) (S : Spc) : Prop := ∃ g h i, S.files = [g, h, i] ∧ g.num = 9 ∧ h.num = 20 ∧ i.num = 21 ∧ g.blocks = 3 ∧ h.blocks = a ∧ i.blocks = b ∧ g.frames = [sNine]
theorem ss_may (a b : Nat) (ha : 1 ≤ a) (hb : 1 ≤ b) : ssS3.may (ssAdd a b) [5] = true := by
  have h1 : (1 : Int) ≤ (a : Int) := by omega
  have h2 : (1 : Int) ≤ (b : Int) := by omega
  simp [Spc.may, Spc.mayDrop, Spc.mayAdd, ssAdd, ssS3, Spc.find, h1, h2]
theorem ss_place1 (a : Nat) (ha : 1 ≤ a ∧ a ≤ 16) : placeX 64 (a : Int) 2 (sortF [(2, 4), (6, 3)]) = (9, true) := by
  have e : sortF [(2, 4), (6, 3)] = [(2, 4), (6, 3)] := rfl
  rw [e]
  unfold placeX
  rw [if_neg (by show ¬ (a : Int) ≤ ((2 : Nat) : Int) - ((2 : Nat) : Int); omega)]
  unfold placeX
  rw [if_neg (by show ¬ (a : Int) ≤ ((6 : Nat) : Int) - ((2 + 4 : Nat) : Int); omega)]
  unfold placeX
  rw [decide_eq_true (by show (a : Int) ≤ ((64 : Nat) : Int) - ((6 + 3 : Nat) : Int); omega)]
  rfl
theorem ss_place2 (a b : Nat) (ha : 1 ≤ a ∧ a ≤ 16) (hb : 1 ≤ b ∧ b ≤ 16) : placeX 64 (b : Int) 2 (sortF [(2, 4), (6, 3), (9, a)]) = (9 + a, true) := by
  have e : sortF [(2, 4), (6, 3), (9, a)] = [(2, 4), (6, 3), (9, a)] := rfl
  rw [e]
  unfold placeX
  rw [if_neg (by show ¬ (b : Int) ≤ ((2 : Nat) : Int) - ((2 : Nat) : Int); omega)]
  unfold placeX
  rw [if_neg (by show ¬ (b : Int) ≤ ((6 : Nat) : Int) - ((2 + 4 : Nat) : Int); omega)]
  unfold placeX
  rw [if_neg (by show ¬ (b : Int) ≤ ((9 : Nat) : Int) - ((6 + 3 : Nat) : Int); omega)]
  unfold placeX
  rw [decide_eq_true (by show (b : Int) ≤ ((64 : Nat) : Int) - ((9 + a : Nat) : Int); omega)]
theorem ss_add (a b : Nat) (ha : 1 ≤ a ∧ a ≤ 16) (hb : 1 ≤ b ∧ b ≤ 16) : addX 64 3 (ssAdd a b) ssS3.lie (ssS3.files.filter fun f => !([5] : List Int).contains (f.num : Int)) = some (ssNew a b) := by
  show addX 64 3 [⟨20, 0, a⟩, ⟨21, 0, b⟩] [(2, 4), (6, 3)] [⟨9, 6, 3, 2, 1, [sNine]⟩] = _
  rw [addX_yes (ss_place1 a ha), addX_yes (ss_place2 a b ha hb)]
  rfl
theorem ss_sort (a b : Nat) : sortN (ssNew a b) = ssNew a b := rfl
section
variable {D : Dk} {sf : Nat → Nat} {lim : Nat}
theorem good_lim {S : Spc} {m : Nat} (hg : Good D S sf lim) (h : lim ≤ m) (hm : m ≤ 1000000000) : Good D S sf m :=
  ⟨⟨hg.fils.off, hg.fils.wf, hg.fils.two, hg.fils.most, hg.fils.ok, ⟨Nat.le_trans hg.fils.cap.1 h, hm⟩, fun f hf => ⟨Nat.le_trans (hg.fils.each f hf).1 h, (hg.fils.each f hf).2⟩, hg.fils.births⟩, hg.heads⟩
theorem fewer_two {f g : Fl} {gs : List Fl} (h : Fewer sf [f, g] gs) : ∃ f' g', gs = [f', g'] ∧ (f'.num = f.num ∧ f'.blocks = f.blocks ∧ ∃ m, sf f.num ≤ m ∧ m ≤ f.frames.length ∧ f'.frames = f.frames.take m) ∧ (g'.num = g.num ∧ g'.blocks = g.blocks ∧ ∃ m, sf g.num ≤ m ∧ m ≤ g.frames.length ∧ g'.frames = g.frames.take m) := by
  match gs, h with
  | [f', g'], ⟨⟨a1, a2, a3, a4, a5⟩, ⟨b1, b2, b3, b4, b5⟩, _⟩ => exact ⟨f', g', rfl, ⟨a1, a3, a5⟩, b1, b3, b5⟩
theorem fewer_three {f g i : Fl} {gs : List Fl} (h : Fewer sf [f, g, i] gs) : ∃ f' g' i', gs = [f', g', i'] ∧ (f'.num = f.num ∧ f'.blocks = f.blocks ∧ ∃ m, sf f.num ≤ m ∧ m ≤ f.frames.length ∧ f'.frames = f.frames.take m) ∧ (g'.num = g.num ∧ g'.blocks = g.blocks) ∧ i'.num = i.num ∧ i'.blocks = i.blocks := by
  match gs, h with
  | [f', g', i'], ⟨⟨a1, a2, a3, a4, a5⟩, ⟨b1, b2, b3, b4, b5⟩, ⟨c1, c2, c3, c4, c5⟩, _⟩ => exact ⟨f', g', i', rfl, ⟨a1, a3, a5⟩, ⟨b1, b3⟩, c1, c3⟩
theorem take_one {l : List UInt8} {m : Nat} (h1 : 1 ≤ m) : [l].take m = [l] := by
  rw [List.take_of_length_le (by simpa using h1)]
theorem ss_old {gs : List Fl} {sl t : Nat} (h : Fewer sf ssS3.files gs) (h5 : sf 5 = 1) (h9 : sf 9 = 1) : SsOld ⟨sl, t, gs⟩ := by
  obtain ⟨g, i, rfl, ⟨a1, a2, m, a3, a4, a5⟩, b1, b2, n, b3, b4, b5⟩ := fewer_two h
  exact ⟨g, i, rfl, a1, b1, by rw [a5]; exact take_one (by rw [← h5]; exact a3), by rw [b5]; exact take_one (by rw [← h9]; exact b3)⟩
theorem ss_new {gs : List Fl} {sl t a b : Nat} (h : Fewer sf (ssNew a b) gs) (h9 : sf 9 = 1) : SsNew a b ⟨sl, t, gs⟩ := by
  obtain ⟨g, i, j, rfl, ⟨a1, a2, m, a3, a4, a5⟩, ⟨b1, b2⟩, c1, c2⟩ := fewer_three h
  exact ⟨g, i, j, rfl, a1, b1, c1, a2, b2, c2, by rw [a5]; exact take_one (by rw [← h9]; exact a3)⟩
theorem ss_plain (a b : Nat) (ha : 1 ≤ a ∧ a ≤ 16) (hb : 1 ≤ b ∧ b ≤ 16) (hg : Good D ssS3 sf lim) (hlim : lim + 2 ≤ 1000000000) (h5 : sf 5 = 1) (h9 : sf 9 = 1) (hl : D.cells.length = 64) :
    (D.armed = 1 ∧ ∃ D', ssS3.switch (ssAdd a b) [5] D = (ssS3, D', 21) ∧ D'.off = true ∧ D'.cells.length = 64 ∧ (∀ n, Cnt D n → Cnt D' (n + 1)) ∧ ∀ keep torn bytes, ∃ S', openX (D'.crash keep torn bytes) = (some S', 0) ∧ (∃ sg, Good (D'.crash keep torn bytes) S' sg (lim + 2)) ∧ (SsOld S' ∨ SsNew a b S')) ∨
    (D.armed ≠ 1 ∧ ∃ D' S'', ssS3.switch (ssAdd a b) [5] D = (S'', D', 0) ∧ D'.off = false ∧ D'.cells.length = 64 ∧ (∀ n, Cnt D n → Cnt D' (n + 1)) ∧ ∀ keep torn bytes, ∃ S', openX (D'.crash keep torn bytes) = (some S', 0) ∧ (∃ sg, Good (D'.crash keep torn bytes) S' sg (lim + 2)) ∧ SsNew a b S') := by
  have hm := ss_may a b ha.1 hb.1
  have hx := ss_add a b ha hb
  have h := switch_cases hg (by omega) (ssAdd a b) [5]
  have hcnt : (ssS3.files.length : Int) + (ssAdd a b).length - ([5] : List Int).length ≤ 24 := by show (2 : Int) + 2 - 1 ≤ 24; decide
  cases h with
  | no h1 e => rw [hm] at h1; cases h1
  | many h1 h2 e => omega
  | full h1 h2 h3 e =>
    rw [hl] at h3
    have h3' : addX 64 3 (ssAdd a b) ssS3.lie (ssS3.files.filter fun f => !([5] : List Int).contains (f.num : Int)) = none := h3
    rw [hx] at h3'; cases h3'
  | off fs h1 h2 h3 h4 h5' e =>
    left
    rw [hl] at h3
    have h3' : addX 64 3 (ssAdd a b) ssS3.lie (ssS3.files.filter fun f => !([5] : List Int).contains (f.num : Int)) = some fs := h3
    rw [hx] at h3'
    injection h3' with h3'
    subst h3'
    refine ⟨h4, _, e, took_off h4, hl, fun n hn => hn.took, fun keep torn bytes => ?_⟩
    have hc : Came (D.wr (1 - ssS3.slot) (sealB (ssS3.turn + 1) ((sortN (ssNew a b)).map Fl.hd))) ((D.took (1 - ssS3.slot) (sealB (ssS3.turn + 1) ((sortN (ssNew a b)).map Fl.hd))).crash keep torn bytes) := by
      rw [took_crash]
      exact came_crash (wr_wf hg.fils.wf (by have := hg.fils.two; omega) (sealB_len (by rw [List.length_map]; exact h5'.ok.count)))
    rcases found_head hg h5' hlim hc with ⟨gs, e1, e2, e3⟩ | ⟨gs, e1, e2, e3⟩
    · exact ⟨_, e1, ⟨_, good_lim e3 (by omega) (by omega)⟩, .inl (ss_old e2 h5 h9)⟩
    · refine ⟨_, e1, ⟨_, e3⟩, .inr (ss_new (sf := fun num => if (num : Int) ∈ (ssAdd a b).map (·.num) then 0 else sf num) e2 ?_)⟩
      show (if ((9 : Nat) : Int) ∈ [(20 : Int), 21] then 0 else sf 9) = 1
      rw [if_neg (by decide)]
      exact h9
  | ok fs h1 h2 h3 h4 h5' e g =>
    right
    rw [hl] at h3
    have h3' : addX 64 3 (ssAdd a b) ssS3.lie (ssS3.files.filter fun f => !([5] : List Int).contains (f.num : Int)) = some fs := h3
    rw [hx] at h3'
    injection h3' with h3'
    subst h3'
    rw [e] at g
    have hln : (sealB (ssS3.turn + 1) ((sortN (ssNew a b)).map Fl.hd)).length = 512 := sealB_len (by rw [List.length_map]; exact h5'.ok.count)
    have hwf : WfD (D.wr (1 - ssS3.slot) (sealB (ssS3.turn + 1) ((sortN (ssNew a b)).map Fl.hd))) := wr_wf hg.fils.wf (by have := hg.fils.two; omega) hln
    have hcf := came_flush hwf rfl
    refine ⟨h4, _, _, e, hcf.off, hcf.len.trans hl, fun n hn => hn.wr.flush rfl, fun keep torn bytes => ?_⟩
    obtain ⟨gs, e1, e2, e3⟩ := found_crash g (by omega) (came_crash (keep := keep) (torn := torn) (bytes := bytes) hcf.wf)
    refine ⟨_, e1, ⟨_, e3⟩, ss_new e2 ?_⟩
    rfl
end
/-- The bytes of a word, as they lie. -/
def wordC (l : List UInt8) : Array Value := (l.map bv).toArray
section
variable {w0 w : World} {F : SP} {s d : Nat} {D : Dk} {S : Spc} {sf : Nat → Nat} {lim : Nat}
theorem str_is {w : World} {A : Option Addr} {c n : Nat} {l : List UInt8} (h : Rd w A l) (hl : l.length = n) : ∃ SA : ByteArray, (convert 39 9 (.slice A n c)).run Try.prog w = .ok (.string SA) w ∧ SA.toList = l := by
  subst hl
  exact ⟨ByteArray.mk l.toArray, Rd.str (P := Try.prog) h 39 9 5 Try.underlying39 Try.underlying5 Try.underlying9 c, by simp⟩
theorem good_armed (hg : Good D S sf lim) (a : Nat) : Good { D with armed := a } S sf lim :=
  ⟨⟨hg.fils.off, ⟨hg.fils.wf.pend⟩, hg.fils.two, hg.fils.most, hg.fils.ok, hg.fils.cap, fun f hf => by
    obtain ⟨h1, ls, h2⟩ := hg.fils.each f hf
    exact ⟨h1, ls, h2.same (E := { D with armed := a }) (fun k hk => rfl) (fun k r hk hr => hr)⟩, hg.fils.births⟩, ⟨hg.heads.lt, hg.heads.here, hg.heads.there⟩⟩
/-- Power goes off and comes on. -/
theorem crash_on (h : D.cells.length = D.cells.length) (keep : List Bool) (torn bytes : Int) : ({ D with off := true } : Dk).on keep torn bytes = D.crash keep torn bytes := rfl
end
set_option maxHeartbeats 8000000 in
theorem spaceSwitch_walk (k : Int) (Kp : Option Addr) (kc : Nat) (keep : List Bool) (torn bytes a b : Int) (w : World) (hk : -9223372036854775808 ≤ k ∧ k ≤ 9223372036854775807) (hkp : keep.length ≤ kc ∧ kc ≤ maxLen ∧ RdV w Kp (keep.map Value.bool) ∧ keep.length ≤ 140737488351232)
    (ht : -9223372036854775808 ≤ torn ∧ torn ≤ 9223372036854775807) (hby : -9223372036854775808 ≤ bytes ∧ bytes ≤ 9223372036854775807) (ha : -9223372036854775808 ≤ a ∧ a ≤ 9223372036854775807) (hb : -9223372036854775808 ≤ b ∧ b ≤ 9223372036854775807) :
    Calls Try.prog 8 #[.int .i64 k, .slice Kp keep.length kc, .int .i64 torn, .int .i64 bytes, .int .i64 a, .int .i64 b] w (Asked true w) := by
  obtain ⟨a1, ha1⟩ : ∃ n : Nat, n = (1 + a % 16).toNat := ⟨_, rfl⟩
  obtain ⟨b1, hb1⟩ : ∃ n : Nat, n = (1 + b % 16).toNat := ⟨_, rfl⟩
  have ha2 : 1 ≤ a1 ∧ a1 ≤ 16 := by omega
  have hb2 : 1 ≤ b1 ∧ b1 ≤ 16 := by omega
  have hma : bits .and .i64 a 15 = (a1 : Int) - 1 := by rw [and15]; omega
  have hmb : bits .and .i64 b 15 = (b1 : Int) - 1 := by rw [and15]; omega
  obtain ⟨D0, hD0⟩ : ∃ D, D = beginD 64 := ⟨_, rfl⟩
  have hg0 : Good D0 ⟨1, 1, []⟩ (fun _ => 0) 1 := by rw [hD0]; exact begin_good (by omega) (by omega)
  have hl0 : D0.cells.length = 64 := by rw [hD0]; exact begin_len
  have ha0 : D0.armed = 0 := by rw [hD0]; exact begin_armed
  have hc0 : Cnt D0 1 := by rw [hD0]; exact begin_cnt
  obtain ⟨D1, e1, hg1, hc1, hl1, ha1'⟩ := sw_ok hg0 (by omega) (add := [⟨5, 0, 4⟩, ⟨9, 0, 3⟩]) (drop := []) (fs := ssS1.files) (by omega) (by decide) (by decide) (by rw [hl0]; rfl)
  replace e1 : Spc.switch ⟨1, 1, []⟩ [⟨5, 0, 4⟩, ⟨9, 0, 3⟩] [] D0 = (ssS1, D1, 0) := e1
  replace hg1 : Good D1 ssS1 (lenAt (sortN ssS1.files)) 2 := hg1
  obtain ⟨D2, e2, hg2, hc2, hl2, ha2'⟩ := app_ok hg1 (n := 5) (p := sFive) (f := ⟨5, 2, 4, 2, 1, []⟩) (by omega) rfl (by decide) (by decide)
  replace e2 : ssS1.append 5 sFive D1 = (ssS2, D2, 0) := e2
  replace hg2 : Good D2 ssS2 (lenAt (sortN ssS1.files)) 2 := hg2
  obtain ⟨D3, e3, hg3, hc3, hl3, ha3'⟩ := app_ok hg2 (n := 9) (p := sNine) (f := ⟨9, 6, 3, 2, 1, []⟩) (by omega) rfl (by decide) (by decide)
  replace e3 : ssS2.append 9 sNine D2 = (ssS3, D3, 0) := e3
  replace hg3 : Good D3 ssS3 (lenAt (sortN ssS1.files)) 2 := hg3
  have hg4 : Good D3.flush.1 ssS3 (lenAt ssS3.files) 2 := good_flush hg3
  have hc4 := (hc3 3 (hc2 2 (hc1 1 hc0))).flush hg3.fils.off
  have hl4 : D3.flush.1.cells.length = 64 := (came_flush hg3.fils.wf hg3.fils.off).len.trans (hl3.trans (hl2.trans (hl1.trans hl0)))
  have hf4 : D3.flush.2 = 0 := by rw [flush_on _ hg3.fils.off]
  obtain ⟨D4, hD4⟩ : ∃ D, D = D3.flush.1 := ⟨_, rfl⟩
  rw [← hD4] at hg4 hc4 hl4
  obtain ⟨D5, hD5⟩ : ∃ D5 : Dk, D5 = { D4 with armed := k.toNat } := ⟨_, rfl⟩
  have hg5 : Good D5 ssS3 (lenAt ssS3.files) 2 := by rw [hD5]; exact good_armed hg4 _
  have hc5 : Cnt D5 4 := by rw [hD5]; exact ⟨hc4.writes, hc4.pend⟩
  have hl5 : D5.cells.length = 64 := by rw [hD5]; exact hl4
  have hpl := ss_plain a1 b1 ha2 hb2 hg5 (by omega) rfl rfl hl5
  have hka : (1 : Int) + ((a1 : Int) - 1) = a1 := by omega
  have ba1 : a1 ≤ 16 := ha2.2
  have bb1 : b1 ≤ 16 := hb2.2
  have hkb : (1 : Int) + ((b1 : Int) - 1) = b1 := by omega
  have HB : Hid (Calls Try.prog 24 #[.int .i64 64] w fun e w' => ∃ d s, e = .returned (.tuple #[.pointer (some ⟨d, 0, none⟩), .pointer (some ⟨s, 0, none⟩)]) ∧ Sat w (SpaceP s d ⟨1, 1, []⟩ * (Disk d D0 * (Ro Kp (keep.map Value.bool) * Emp))) w') := by rw [hD0]; exact begin_any (w0 := w) (F := Ro Kp (keep.map Value.bool) * Emp) 64 (by omega) ((Sat.start w).arg hkp.2.2.1)
  have HE1 := Lib.hid e1; have HE2 := Lib.hid e2; have HE3 := Lib.hid e3
  have HG0 := Lib.hid hg0; have HG1 := Lib.hid hg1; have HG2 := Lib.hid hg2
  have HC0 := Lib.hid hc0; have HC1 := Lib.hid (hc1 1 hc0); have HC2 := Lib.hid (hc2 2 (hc1 1 hc0)); have HC3 := Lib.hid (hc3 3 (hc2 2 (hc1 1 hc0)))
  have HA0 : Hid (D0.armed ≤ 9223372036854775807) := by unfold Hid; omega
  have HA1 : Hid (D1.armed ≤ 9223372036854775807) := by unfold Hid; omega
  have HA2 : Hid (D2.armed ≤ 9223372036854775807) := by unfold Hid; omega
  have HF4 := Lib.hid hf4; have HD4 := Lib.hid hD4; have HD5 := Lib.hid hD5; have HPl := Lib.hid hpl
  have HA5 : Hid (D5.armed ≤ 9223372036854775807) := by unfold Hid; rw [hD5]; show k.toNat ≤ _; omega
  have HG5 := Lib.hid hg5; have HC5 := Lib.hid hc5; have HL5 := Lib.hid hl5
  have HAB := Lib.hid (And.intro ha2 hb2)
  have HKl : Hid (keep.length ≤ 9223372036854775807) := by unfold Hid; omega
  have hcv := fun (W : World) (C : Array Value) (n c : Nat) => Lib.run_convert_bytes_const (P := Try.prog) W 39 5 C n c Try.underlying39 Try.underlying5
  clear hD0 hg0 hl0 ha0 hc0 e1 hg1 hc1 hl1 ha1' e2 hg2 hc2 hl2 ha2' e3 hg3 hc3 hl3 ha3' hg4 hc4 hl4 hf4 hD4 hD5 hg5 hc5 hl5 hpl hkp ha1 hb1 ha2 hb2
  go_enter Try.func8, Try.ntmps8
  go_upto_region 2 with (go_at_call 24; (with_reducible refine HB.out.mono ?_); rintro e w2 ⟨d, s, rfl, hs⟩; have HS2 := Lib.hid hs; clear hs)
  go_upto_region 4 with (first
    | (go_at_call 27; (with_reducible refine (num3_any _ _).mono ?_); rintro e wx ⟨rfl, rfl⟩)
    | (go_at_call 17; have h8 := HS2.out.allocPt 35 #[.int .i64 5, .int .i64 0, .int .i64 4, .int .i64 9, .int .i64 0, .int .i64 3]; have h9 := sw_add w2.heap.size 2 2 _ [⟨5, 0, 4⟩, ⟨9, 0, 3⟩] HG0.out (by omega) HC0.out (by omega) HA0.out h8 rfl rfl (by omega) (by simp [FiOk]) HE1.out; (with_reducible refine h9.mono ?_); rintro e w3 ⟨rfl, hs⟩; have HS3 := Lib.hid hs; clear hs h8 h9)
    | (go_at_call 29; have h8 := HS3.out.alloc (.cells #[.int .u8 102, .int .u8 105, .int .u8 118, .int .u8 101] 5 (4, 5)); have h9 := ap_at 5 (some ⟨w3.heap.size, 0, none⟩) 4 4 HG1.out HC1.out (by omega) HA1.out (F := Ow w3.heap.size (.cells #[.int .u8 102, .int .u8 105, .int .u8 118, .int .u8 101] 5 (4, 5)) * (Ro Kp (keep.map Value.bool) * Emp)) (h8.of (by ac_rfl)) (fun W hW => ow_rd (l := sFive) hW) rfl HE2.out; (with_reducible refine h9.mono ?_); rintro e w4 ⟨rfl, hs⟩; have HS4 := Lib.hid hs.up3.right; clear hs h8 h9)
    | (go_at_call 29; have h8 := HS4.out.alloc (.cells #[.int .u8 110, .int .u8 105, .int .u8 110, .int .u8 101] 5 (4, 5)); have h9 := ap_at 9 (some ⟨w4.heap.size, 0, none⟩) 4 4 HG2.out HC2.out (by omega) HA2.out (F := Ow w4.heap.size (.cells #[.int .u8 110, .int .u8 105, .int .u8 110, .int .u8 101] 5 (4, 5)) * (Ro Kp (keep.map Value.bool) * Emp)) (h8.of (by ac_rfl)) (fun W hW => ow_rd (l := sNine) hW) rfl HE3.out; (with_reducible refine h9.mono ?_); rintro e w5 ⟨rfl, hs⟩; have HS5 := Lib.hid hs.up3.right; clear hs h8 h9)
    | (go_at_call 20; have h9 := sync_sp HS5.out (by have := HC3.out.pend; omega); rw [HF4.out, ← HD4.out] at h9; (with_reducible refine h9.mono ?_); rintro e w6 ⟨rfl, hs⟩; have HS6 := Lib.hid hs; clear hs h9)
    | (go_at_call 26; have h9 := wakes3_any HS6.out; (with_reducible refine h9.mono ?_); rintro e w7 ⟨rfl, hs⟩; have HS7 := Lib.hid hs; clear hs h9))
  have HAr : Hid (Calls Try.prog 18 #[.pointer (some ⟨d, 0, none⟩), .int .i64 k] w7 fun e w' => e = .returned (.tuple #[]) ∧ Sat w (SpaceP s d ssS3 * (Disk d D5 * (Ro Kp (keep.map Value.bool) * Emp))) w') := (arm_any d D4 k w w7 _ HS7.out.up2).mono fun e w' ⟨h1, h2⟩ => ⟨h1, by rw [HD5.out]; exact h2.up2⟩
  go_upto_region 6 with (go_at_call 18; (with_reducible refine HAr.out.mono ?_); rintro e w8 ⟨rfl, hs⟩; have HS8 := Lib.hid hs; clear hs)
  have HFi : Hid (∀ f ∈ ssAdd a1 b1, FiOk f) := fun f hf => by
    have h1 := HAB.out
    simp only [ssAdd, List.mem_cons, List.not_mem_nil, or_false] at hf
    rcases hf with rfl | rfl <;> exact ⟨by dsimp only; omega, by dsimp only; omega⟩
  rcases HPl.out with ⟨_, E, hsw, hEo, hEl, hEc, hcr⟩ | ⟨_, E, S9, hsw, hEo, hEl, hEc, hcr⟩
  · obtain ⟨T, hT, ⟨sg, hTg⟩, hTo⟩ := hcr keep torn bytes
    have HSw := Lib.hid hsw; have HEo := Lib.hid hEo; have HEl := Lib.hid hEl; have HCe := Lib.hid (hEc 4 HC5.out); have HT := Lib.hid hT; have HTg := Lib.hid hTg; have HTo := Lib.hid hTo
    clear hsw hEo hEl hEc hcr hT hTg hTo HPl
    go_upto_region 7 with (go_at_call 17; have h8 := (HS8.out.allocPt 35 #[.int .i64 20, .int .i64 0, .int .i64 (a1 : Int), .int .i64 21, .int .i64 0, .int .i64 (b1 : Int)]).allocAt (b := w8.heap.size + 1) 3 #[.int .i64 5] (by simp); have h9 := sw_lits w8.heap.size (w8.heap.size + 1) 2 2 1 1 _ _ (ssAdd a1 b1) [5] HG5.out (by omega) HC5.out (by omega) HA5.out h8.up2 rfl rfl rfl rfl (by omega) (by omega) (fun f hf => HFi.out f hf) (by simp) HSw.out; (with_reducible refine h9.mono ?_); rintro e w9 ⟨rfl, hs⟩; have HS9 := Lib.hid hs; clear hs h8 h9)
    have HOff : Hid (Calls Try.prog 44 #[.pointer (some ⟨d, 0, none⟩)] w9 fun e w' => e = .returned (.bool true) ∧ w9 = w') := (off_any d E w w9 _ HS9.out.up2).mono fun e w' ⟨h1, h2⟩ => ⟨by rw [h1, HEo.out], h2⟩
    go_upto_region 9 with (first | (go_at_call 44; (with_reducible refine HOff.out.mono ?_); rintro e wx ⟨rfl, rfl⟩) | (go_at_call 27; (with_reducible refine (num3_any _ _).mono ?_); rintro e wx ⟨rfl, rfl⟩))
    have HCu : Hid (Calls Try.prog 21 #[.pointer (some ⟨d, 0, none⟩)] w9 fun e w' => e = .returned (.tuple #[]) ∧ Sat w (Disk d { E with off := true } * (Ro Kp (keep.map Value.bool) * Emp)) w') := (cut_any d E w w9 _ HS9.out.up2).mono fun e w' ⟨h1, h2⟩ => ⟨h1, h2.up2.right⟩
    go_upto_region 10 with (go_at_call 21; (with_reducible refine HCu.out.mono ?_); rintro e w10 ⟨rfl, hs⟩; have HS10 := Lib.hid hs; clear hs)
    have HOn : Hid (Calls Try.prog 22 #[.pointer (some ⟨d, 0, none⟩), .slice Kp keep.length kc, .int .i64 torn, .int .i64 bytes] w10 fun e w' => e = .returned (.tuple #[]) ∧ Sat w (Disk d (E.crash keep torn bytes) * Emp) w') := (on_any d { E with off := true } Kp kc keep torn bytes w w10 _ HS10.out (by have := HCe.out.pend; show E.pend.length ≤ _; omega) HKl.out).mono fun e w' ⟨h1, h2⟩ => ⟨h1, h2.up2.right⟩
    go_upto_region 11 with (go_at_call 22; (with_reducible refine HOn.out.mono ?_); rintro e w11 ⟨rfl, hs⟩; have HS11 := Lib.hid hs; clear hs)
    have HOp : Hid (Calls Try.prog 16 #[.pointer (some ⟨d, 0, none⟩)] w11 fun e w' => ∃ t, e = .returned (.tuple #[.pointer (some ⟨t, 0, none⟩), .int .i64 0]) ∧ Sat w (SpaceP t d T * (Disk d (E.crash keep torn bytes) * Emp)) w') := by
      refine (open_any HS11.out (by rw [crash_len]; have := HEl.out; omega) (by rw [crash_len]; have := HEl.out; omega)).mono ?_
      rintro e w' ⟨p, h1, h2⟩
      rw [HT.out] at h1 h2
      obtain ⟨t, rfl⟩ := opt_some h2
      exact ⟨t, h1, h2⟩
    go_upto_region 14 with (first | (go_at_call 16; (with_reducible refine HOp.out.mono ?_); rintro e w12 ⟨t, rfl, hs⟩; have HS12 := Lib.hid hs; clear hs) | (go_at_call 27; (with_reducible refine (num3_any _ _).mono ?_); rintro e wx ⟨rfl, rfl⟩))
    rcases HTo.out with HTo2 | HTo2
    ·
      obtain ⟨g, h, hfs, g5, h9, gf, hf⟩ := HTo2
      have hfi9 : T.find 9 = some h := by unfold Spc.find; rw [hfs]; simp [g5, h9]
      have hfi5 : T.find 5 = some g := by unfold Spc.find; rw [hfs]; simp [g5]
      have HFs : Hid (Calls Try.prog 32 #[.pointer (some ⟨t, 0, none⟩)] w12 fun e w' => ∃ gA c, e = .returned (.slice (some ⟨gA, 0, none⟩) 2 c) ∧ Sat w (Row 35 3 (.slice (some ⟨gA, 0, none⟩) 2 c) 2 [.int .i64 5, .int .i64 (g.first : Int), .int .i64 (g.blocks : Int), .int .i64 9, .int .i64 (h.first : Int), .int .i64 (h.blocks : Int)] * (SpaceP t d T * (Disk d (E.crash keep torn bytes) * Emp))) w') := (files_sp HTg.out HS12.out).mono fun e w' ⟨u, h1, h2⟩ => by
        rw [hfs] at h2
        obtain ⟨A, c, rfl, _⟩ := h2.row_sl
        obtain ⟨gA, rfl, _⟩ := h2.row_at (show 0 < 2 by omega)
        refine ⟨gA, c, h1, h2.of ?_⟩
        show Row _ 3 _ 2 [_, _, _, _, _, _] * _ = _
        dsimp only [lieOf]
        rw [g5, h9]
        rfl
      have HFr : Hid (∀ W X, Sat w (SpaceP t d T * (Disk d (E.crash keep torn bytes) * X)) W → Calls Try.prog 30 #[.pointer (some ⟨t, 0, none⟩), .int .i64 9] W fun e w' => ∃ gB A cA c, e = .returned (.tuple #[.slice (some ⟨gB, 0, none⟩) 1 c, .int .i64 0]) ∧ w'.cell? ⟨gB, 0, none⟩ = some (.slice A 4 cA) ∧ Rd w' A sNine ∧ Sat w (SpaceP t d T * (Disk d (E.crash keep torn bytes) * X)) w') := fun W X hW => (frames_sp HTg.out hW hfi9).mono fun e w' ⟨u, ts, h1, h2, h3⟩ => by
        rw [hf] at h2
        obtain ⟨A, cA, rfl⟩ := txt_one h2
        obtain ⟨A6, c6, rfl, _⟩ := h3.row_sl
        obtain ⟨gB, rfl, hgB⟩ := h3.row_at (show 0 < 1 by omega)
        exact ⟨gB, A, cA, c6, h1, hgB 0 (by simp), h3.up2.rol (List.mem_singleton.2 rfl), h3.right.right⟩
      have HGf := Lib.hid gf; have HF5 := Lib.hid hfi5
      clear hfs g5 h9 gf hf hfi9 hfi5
      go_upto_region 15 with (go_at_call 32; (with_reducible refine HFs.out.mono ?_); rintro e w13 ⟨gA, c13, rfl, hs⟩; have HS13 := Lib.hid hs; clear hs)
      have hs13 : Sat w (SpaceP t d T * (Disk d (E.crash keep torn bytes) * (Row 35 3 (.slice (some ⟨gA, 0, none⟩) 2 c13) 2 [.int .i64 5, .int .i64 (g.first : Int), .int .i64 (g.blocks : Int), .int .i64 9, .int .i64 (h.first : Int), .int .i64 (h.blocks : Int)] * Emp))) w13 := HS13.out.of (by ac_rfl)
      have HFr2 := Lib.hid (HFr.out w13 _ hs13)
      go_upto_region 16 with (go_at_call 30; (with_reducible refine HFr2.out.mono ?_); rintro e w14 ⟨gB, A14, cA, c14, rfl, hq, hrd, hs⟩; have HS14 := Lib.hid hs; have HRd := Lib.hid hrd; clear hs hrd)
      obtain ⟨SA, s1, hst⟩ := str_is (n := 4) (c := cA) HRd.out rfl
      have hcmp : (SA.toList == [110, 105, 110, 101]) = true := by rw [hst]; rfl
      have HRow := Lib.hid HS14.out.up3
      obtain ⟨gZ, eZ, hgZ⟩ := HS14.out.up3.row_at (show 0 < 2 by omega)
      injection eZ with eZ
      injection eZ with eZ
      subst eZ
      have z0 := hgZ 0 (by simp)
      have z3 := hgZ 3 (by simp)
      simp only [List.getElem_cons_succ, List.getElem_cons_zero] at z0 z3
      clear hst hgZ hs13 HFr HFr2 HFs
      have HFq : Hid (Calls Try.prog 30 #[.pointer (some ⟨t, 0, none⟩), .int .i64 5] w14 fun e w' => ∃ gB A cA c, e = .returned (.tuple #[.slice (some ⟨gB, 0, none⟩) 1 c, .int .i64 0]) ∧ w'.cell? ⟨gB, 0, none⟩ = some (.slice A 4 cA) ∧ Rd w' A sFive ∧ Chg No w w') := (frames_sp HTg.out HS14.out HF5.out).mono fun e w' ⟨u, ts, h1, h2, h3⟩ => by
        rw [HGf.out] at h2
        obtain ⟨A, cA, rfl⟩ := txt_one h2
        obtain ⟨A6, c6, rfl, _⟩ := h3.row_sl
        obtain ⟨gB, rfl, hgB⟩ := h3.row_at (show 0 < 1 by omega)
        exact ⟨gB, A, cA, c6, h1, hgB 0 (by simp), h3.up2.rol (List.mem_singleton.2 rfl), h3.chg⟩
      go_upto_region 20 with (first | (go_at_call 30; (with_reducible refine HFq.out.mono ?_); rintro e w15 ⟨gC, A15, cC, c15, rfl, hq2, hrd, hs⟩; have HS15 := Lib.hid hs; have HRd2 := Lib.hid hrd; clear hs hrd) | (go_at_call 27; (with_reducible refine (num3_any _ _).mono ?_); rintro e wx ⟨rfl, rfl⟩))
      obtain ⟨SB, s2, hst2⟩ := str_is (n := 4) (c := cC) HRd2.out rfl
      have hcmp2 : (SB.toList == [102, 105, 118, 101]) = true := by rw [hst2]; rfl
      clear hst2
      go_wp2_with (go_at_call 27; (with_reducible refine (num3_any _ _).mono ?_); rintro e wx ⟨rfl, rfl⟩)
      go_ret
      exact ⟨rfl, HS15.out⟩
    ·
      obtain ⟨g, h, i, hfs, g9, h20, i21, gb, hb1, ib1, gf⟩ := HTo2
      have hfi9 : T.find 9 = some g := by unfold Spc.find; rw [hfs]; simp [g9]
      have hfree : freeN (((E.crash keep torn bytes).cells.length : Int) - 2) T.files = 59 - (a1 : Int) - b1 := by
        rw [crash_len, HEl.out, hfs]
        show ((((64 : Nat) : Int) - 2 - (g.blocks : Int)) - (h.blocks : Int)) - (i.blocks : Int) = _
        rw [gb, hb1, ib1]
        omega
      have HFs : Hid (Calls Try.prog 32 #[.pointer (some ⟨t, 0, none⟩)] w12 fun e w' => ∃ gA c, e = .returned (.slice (some ⟨gA, 0, none⟩) 3 c) ∧ Sat w (Row 35 3 (.slice (some ⟨gA, 0, none⟩) 3 c) 3 [.int .i64 9, .int .i64 (g.first : Int), .int .i64 3, .int .i64 20, .int .i64 (h.first : Int), .int .i64 (a1 : Int), .int .i64 21, .int .i64 (i.first : Int), .int .i64 (b1 : Int)] * (SpaceP t d T * (Disk d (E.crash keep torn bytes) * Emp))) w') := (files_sp HTg.out HS12.out).mono fun e w' ⟨u, h1, h2⟩ => by
        rw [hfs] at h2
        obtain ⟨A, c, rfl, _⟩ := h2.row_sl
        obtain ⟨gA, rfl, _⟩ := h2.row_at (show 0 < 3 by omega)
        refine ⟨gA, c, h1, h2.of ?_⟩
        show Row _ 3 _ 3 [_, _, _, _, _, _, _, _, _] * _ = _
        dsimp only [lieOf]
        rw [g9, h20, i21, gb, hb1, ib1]
        rfl
      have HFr : Hid (∀ W X, Sat w (SpaceP t d T * (Disk d (E.crash keep torn bytes) * X)) W → Calls Try.prog 30 #[.pointer (some ⟨t, 0, none⟩), .int .i64 9] W fun e w' => ∃ gB A cA c, e = .returned (.tuple #[.slice (some ⟨gB, 0, none⟩) 1 c, .int .i64 0]) ∧ w'.cell? ⟨gB, 0, none⟩ = some (.slice A 4 cA) ∧ Rd w' A sNine ∧ Sat w (SpaceP t d T * (Disk d (E.crash keep torn bytes) * X)) w') := fun W X hW => (frames_sp HTg.out hW hfi9).mono fun e w' ⟨u, ts, h1, h2, h3⟩ => by
        rw [gf] at h2
        obtain ⟨A, cA, rfl⟩ := txt_one h2
        obtain ⟨A6, c6, rfl, _⟩ := h3.row_sl
        obtain ⟨gB, rfl, hgB⟩ := h3.row_at (show 0 < 1 by omega)
        exact ⟨gB, A, cA, c6, h1, hgB 0 (by simp), h3.up2.rol (List.mem_singleton.2 rfl), h3.right.right⟩
      have HFree := Lib.hid hfree
      clear hfs g9 h20 i21 gb hb1 ib1 gf hfi9 hfree
      go_upto_region 15 with (go_at_call 32; (with_reducible refine HFs.out.mono ?_); rintro e w13 ⟨gA, c13, rfl, hs⟩; have HS13 := Lib.hid hs; clear hs)
      have hs13 : Sat w (SpaceP t d T * (Disk d (E.crash keep torn bytes) * (Row 35 3 (.slice (some ⟨gA, 0, none⟩) 3 c13) 3 [.int .i64 9, .int .i64 (g.first : Int), .int .i64 3, .int .i64 20, .int .i64 (h.first : Int), .int .i64 (a1 : Int), .int .i64 21, .int .i64 (i.first : Int), .int .i64 (b1 : Int)] * Emp))) w13 := HS13.out.of (by ac_rfl)
      have HFr2 := Lib.hid (HFr.out w13 _ hs13)
      go_upto_region 16 with (go_at_call 30; (with_reducible refine HFr2.out.mono ?_); rintro e w14 ⟨gB, A14, cA, c14, rfl, hq, hrd, hs⟩; have HS14 := Lib.hid hs; have HRd := Lib.hid hrd; clear hs hrd)
      obtain ⟨SA, s1, hst⟩ := str_is (n := 4) (c := cA) HRd.out rfl
      have hcmp : (SA.toList == [110, 105, 110, 101]) = true := by rw [hst]; rfl
      have HRow := Lib.hid HS14.out.up3
      obtain ⟨gZ, eZ, hgZ⟩ := HS14.out.up3.row_at (show 0 < 3 by omega)
      injection eZ with eZ
      injection eZ with eZ
      subst eZ
      have z0 := hgZ 0 (by simp)
      have z3 := hgZ 3 (by simp)
      have z5 := hgZ 5 (by simp)
      have z6 := hgZ 6 (by simp)
      have z8 := hgZ 8 (by simp)
      simp only [List.getElem_cons_succ, List.getElem_cons_zero] at z0 z3 z5 z6 z8
      clear hst hgZ hs13 HFr HFr2 HFs
      have HFx : Hid (Calls Try.prog 25 #[.pointer (some ⟨t, 0, none⟩)] w14 fun e w' => e = .returned (.int .i64 (59 - (a1 : Int) - b1)) ∧ w14 = w') := (free_sp HTg.out HS14.out).mono fun e w' ⟨h1, h2⟩ => ⟨by rw [h1, HFree.out], h2⟩
      go_wp2_with (first | (go_at_call 25; (with_reducible refine HFx.out.mono ?_); rintro e wx ⟨rfl, rfl⟩) | (go_at_call 27; (with_reducible refine (num3_any _ _).mono ?_); rintro e wx ⟨rfl, rfl⟩))
      go_ret
      exact ⟨rfl, HS14.out.chg⟩
  · obtain ⟨T, hT, ⟨sg, hTg⟩, hTo⟩ := hcr keep torn bytes
    have HSw := Lib.hid hsw; have HEo := Lib.hid hEo; have HEl := Lib.hid hEl; have HCe := Lib.hid (hEc 4 HC5.out); have HT := Lib.hid hT; have HTg := Lib.hid hTg; have HTo := Lib.hid hTo
    clear hsw hEo hEl hEc hcr hT hTg hTo HPl
    go_upto_region 7 with (go_at_call 17; have h8 := (HS8.out.allocPt 35 #[.int .i64 20, .int .i64 0, .int .i64 (a1 : Int), .int .i64 21, .int .i64 0, .int .i64 (b1 : Int)]).allocAt (b := w8.heap.size + 1) 3 #[.int .i64 5] (by simp); have h9 := sw_lits w8.heap.size (w8.heap.size + 1) 2 2 1 1 _ _ (ssAdd a1 b1) [5] HG5.out (by omega) HC5.out (by omega) HA5.out h8.up2 rfl rfl rfl rfl (by omega) (by omega) (fun f hf => HFi.out f hf) (by simp) HSw.out; (with_reducible refine h9.mono ?_); rintro e w9 ⟨rfl, hs⟩; have HS9 := Lib.hid hs; clear hs h8 h9)
    have HOff : Hid (Calls Try.prog 44 #[.pointer (some ⟨d, 0, none⟩)] w9 fun e w' => e = .returned (.bool false) ∧ w9 = w') := (off_any d E w w9 _ HS9.out.up2).mono fun e w' ⟨h1, h2⟩ => ⟨by rw [h1, HEo.out], h2⟩
    go_upto_region 9 with (first | (go_at_call 44; (with_reducible refine HOff.out.mono ?_); rintro e wx ⟨rfl, rfl⟩) | (go_at_call 27; (with_reducible refine (num3_any _ _).mono ?_); rintro e wx ⟨rfl, rfl⟩))
    have HCu : Hid (Calls Try.prog 21 #[.pointer (some ⟨d, 0, none⟩)] w9 fun e w' => e = .returned (.tuple #[]) ∧ Sat w (Disk d { E with off := true } * (Ro Kp (keep.map Value.bool) * Emp)) w') := (cut_any d E w w9 _ HS9.out.up2).mono fun e w' ⟨h1, h2⟩ => ⟨h1, h2.up2.right⟩
    go_upto_region 10 with (go_at_call 21; (with_reducible refine HCu.out.mono ?_); rintro e w10 ⟨rfl, hs⟩; have HS10 := Lib.hid hs; clear hs)
    have HOn : Hid (Calls Try.prog 22 #[.pointer (some ⟨d, 0, none⟩), .slice Kp keep.length kc, .int .i64 torn, .int .i64 bytes] w10 fun e w' => e = .returned (.tuple #[]) ∧ Sat w (Disk d (E.crash keep torn bytes) * Emp) w') := (on_any d { E with off := true } Kp kc keep torn bytes w w10 _ HS10.out (by have := HCe.out.pend; show E.pend.length ≤ _; omega) HKl.out).mono fun e w' ⟨h1, h2⟩ => ⟨h1, h2.up2.right⟩
    go_upto_region 11 with (go_at_call 22; (with_reducible refine HOn.out.mono ?_); rintro e w11 ⟨rfl, hs⟩; have HS11 := Lib.hid hs; clear hs)
    have HOp : Hid (Calls Try.prog 16 #[.pointer (some ⟨d, 0, none⟩)] w11 fun e w' => ∃ t, e = .returned (.tuple #[.pointer (some ⟨t, 0, none⟩), .int .i64 0]) ∧ Sat w (SpaceP t d T * (Disk d (E.crash keep torn bytes) * Emp)) w') := by
      refine (open_any HS11.out (by rw [crash_len]; have := HEl.out; omega) (by rw [crash_len]; have := HEl.out; omega)).mono ?_
      rintro e w' ⟨p, h1, h2⟩
      rw [HT.out] at h1 h2
      obtain ⟨t, rfl⟩ := opt_some h2
      exact ⟨t, h1, h2⟩
    go_upto_region 14 with (first | (go_at_call 16; (with_reducible refine HOp.out.mono ?_); rintro e w12 ⟨t, rfl, hs⟩; have HS12 := Lib.hid hs; clear hs) | (go_at_call 27; (with_reducible refine (num3_any _ _).mono ?_); rintro e wx ⟨rfl, rfl⟩))
    have HTo2 := HTo.out
    obtain ⟨g, h, i, hfs, g9, h20, i21, gb, hb1, ib1, gf⟩ := HTo2
    have hfi9 : T.find 9 = some g := by unfold Spc.find; rw [hfs]; simp [g9]
    have hfree : freeN (((E.crash keep torn bytes).cells.length : Int) - 2) T.files = 59 - (a1 : Int) - b1 := by
      rw [crash_len, HEl.out, hfs]
      show ((((64 : Nat) : Int) - 2 - (g.blocks : Int)) - (h.blocks : Int)) - (i.blocks : Int) = _
      rw [gb, hb1, ib1]
      omega
    have HFs : Hid (Calls Try.prog 32 #[.pointer (some ⟨t, 0, none⟩)] w12 fun e w' => ∃ gA c, e = .returned (.slice (some ⟨gA, 0, none⟩) 3 c) ∧ Sat w (Row 35 3 (.slice (some ⟨gA, 0, none⟩) 3 c) 3 [.int .i64 9, .int .i64 (g.first : Int), .int .i64 3, .int .i64 20, .int .i64 (h.first : Int), .int .i64 (a1 : Int), .int .i64 21, .int .i64 (i.first : Int), .int .i64 (b1 : Int)] * (SpaceP t d T * (Disk d (E.crash keep torn bytes) * Emp))) w') := (files_sp HTg.out HS12.out).mono fun e w' ⟨u, h1, h2⟩ => by
      rw [hfs] at h2
      obtain ⟨A, c, rfl, _⟩ := h2.row_sl
      obtain ⟨gA, rfl, _⟩ := h2.row_at (show 0 < 3 by omega)
      refine ⟨gA, c, h1, h2.of ?_⟩
      show Row _ 3 _ 3 [_, _, _, _, _, _, _, _, _] * _ = _
      dsimp only [lieOf]
      rw [g9, h20, i21, gb, hb1, ib1]
      rfl
    have HFr : Hid (∀ W X, Sat w (SpaceP t d T * (Disk d (E.crash keep torn bytes) * X)) W → Calls Try.prog 30 #[.pointer (some ⟨t, 0, none⟩), .int .i64 9] W fun e w' => ∃ gB A cA c, e = .returned (.tuple #[.slice (some ⟨gB, 0, none⟩) 1 c, .int .i64 0]) ∧ w'.cell? ⟨gB, 0, none⟩ = some (.slice A 4 cA) ∧ Rd w' A sNine ∧ Sat w (SpaceP t d T * (Disk d (E.crash keep torn bytes) * X)) w') := fun W X hW => (frames_sp HTg.out hW hfi9).mono fun e w' ⟨u, ts, h1, h2, h3⟩ => by
      rw [gf] at h2
      obtain ⟨A, cA, rfl⟩ := txt_one h2
      obtain ⟨A6, c6, rfl, _⟩ := h3.row_sl
      obtain ⟨gB, rfl, hgB⟩ := h3.row_at (show 0 < 1 by omega)
      exact ⟨gB, A, cA, c6, h1, hgB 0 (by simp), h3.up2.rol (List.mem_singleton.2 rfl), h3.right.right⟩
    have HFree := Lib.hid hfree
    clear hfs g9 h20 i21 gb hb1 ib1 gf hfi9 hfree
    go_upto_region 15 with (go_at_call 32; (with_reducible refine HFs.out.mono ?_); rintro e w13 ⟨gA, c13, rfl, hs⟩; have HS13 := Lib.hid hs; clear hs)
    have hs13 : Sat w (SpaceP t d T * (Disk d (E.crash keep torn bytes) * (Row 35 3 (.slice (some ⟨gA, 0, none⟩) 3 c13) 3 [.int .i64 9, .int .i64 (g.first : Int), .int .i64 3, .int .i64 20, .int .i64 (h.first : Int), .int .i64 (a1 : Int), .int .i64 21, .int .i64 (i.first : Int), .int .i64 (b1 : Int)] * Emp))) w13 := HS13.out.of (by ac_rfl)
    have HFr2 := Lib.hid (HFr.out w13 _ hs13)
    go_upto_region 16 with (go_at_call 30; (with_reducible refine HFr2.out.mono ?_); rintro e w14 ⟨gB, A14, cA, c14, rfl, hq, hrd, hs⟩; have HS14 := Lib.hid hs; have HRd := Lib.hid hrd; clear hs hrd)
    obtain ⟨SA, s1, hst⟩ := str_is (n := 4) (c := cA) HRd.out rfl
    have hcmp : (SA.toList == [110, 105, 110, 101]) = true := by rw [hst]; rfl
    have HRow := Lib.hid HS14.out.up3
    obtain ⟨gZ, eZ, hgZ⟩ := HS14.out.up3.row_at (show 0 < 3 by omega)
    injection eZ with eZ
    injection eZ with eZ
    subst eZ
    have z0 := hgZ 0 (by simp)
    have z3 := hgZ 3 (by simp)
    have z5 := hgZ 5 (by simp)
    have z6 := hgZ 6 (by simp)
    have z8 := hgZ 8 (by simp)
    simp only [List.getElem_cons_succ, List.getElem_cons_zero] at z0 z3 z5 z6 z8
    clear hst hgZ hs13 HFr HFr2 HFs
    have HFx : Hid (Calls Try.prog 25 #[.pointer (some ⟨t, 0, none⟩)] w14 fun e w' => e = .returned (.int .i64 (59 - (a1 : Int) - b1)) ∧ w14 = w') := (free_sp HTg.out HS14.out).mono fun e w' ⟨h1, h2⟩ => ⟨by rw [h1, HFree.out], h2⟩
    go_wp2_with (first | (go_at_call 25; (with_reducible refine HFx.out.mono ?_); rintro e wx ⟨rfl, rfl⟩) | (go_at_call 27; (with_reducible refine (num3_any _ _).mono ?_); rintro e wx ⟨rfl, rfl⟩))
    go_ret
    exact ⟨rfl, HS14.out.chg⟩
end Go.Proofs.Ytjmapbhgjhlefaa
