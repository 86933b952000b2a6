/- SpaceFits: the walk. (Written by gen_spfits.py.) -/
import Derived.Test.YtjmapbhgjhlefaaQ12
import Derived.Test.YtjmapbhgjhlefaaQ14
import Derived.Test.YtjmapbhgjhlefaaQWithin
namespace Go.Proofs.Ytjmapbhgjhlefaa
open Go.RowKit
set_option linter.unusedVariables false
set_option maxRecDepth 100000

section
variable {D : Dk} {S : Spc} {sf : Nat → Nat} {lim n m a b t : Nat}
/-- Whose a block is. -/
def ownF (fs : List Fl) (b : Nat) : Int := match fs.find? fun f => decide (f.first ≤ b ∧ b < f.first + f.blocks) with | some f => (f.num : Int) | none => 0
def ownP (fs : List Fl) (f : Fl) (m b : Nat) : Int := if f.first ≤ b ∧ b < f.first + m then (f.num : Int) else ownF fs b
theorem ownF_zero {fs : List Fl} {b : Nat} (h : ∀ f ∈ fs, ¬ (f.first ≤ b ∧ b < f.first + f.blocks)) : ownF fs b = 0 := by
  unfold ownF
  cases hq : fs.find? fun f => decide (f.first ≤ b ∧ b < f.first + f.blocks) with
  | none => rfl
  | some f =>
    have h9 := List.find?_some hq
    exact absurd (by simpa using h9) (h f (List.mem_of_find?_eq_some hq))
theorem ownP_all {fs : List Fl} {f : Fl} (h : ∀ b, f.first ≤ b → b < f.first + f.blocks → ∀ g ∈ fs, ¬ (g.first ≤ b ∧ b < g.first + g.blocks)) : ownP fs f f.blocks = ownF (fs ++ [f]) := by
  funext b
  unfold ownP
  by_cases hb : f.first ≤ b ∧ b < f.first + f.blocks
  · rw [if_pos hb]
    unfold ownF
    rw [List.find?_append]
    have h1 : (fs.find? fun f => decide (f.first ≤ b ∧ b < f.first + f.blocks)) = none := by
      rw [List.find?_eq_none]
      intro g hg
      simpa using h b hb.1 hb.2 g hg
    rw [h1, Option.none_or, List.find?_cons, decide_eq_true hb]
  · rw [if_neg hb]
    unfold ownF
    rw [List.find?_append]
    cases hq : (fs.find? fun f => decide (f.first ≤ b ∧ b < f.first + f.blocks)) with
    | some g => rfl
    | none => rw [Option.none_or, List.find?_cons, decide_eq_false hb]; rfl
theorem ownP_zero (fs : List Fl) (f : Fl) : ownP fs f 0 = ownF fs := by
  funext b
  unfold ownP
  rw [if_neg (by omega)]
theorem ownP_succ (fs : List Fl) (f : Fl) (m b : Nat) : ownP fs f (m + 1) b = if b = f.first + m then (f.num : Int) else ownP fs f m b := by
  unfold ownP
  by_cases h : b = f.first + m
  · rw [if_pos h, if_pos (by omega)]
  · rw [if_neg h]
    by_cases h2 : f.first ≤ b ∧ b < f.first + m
    · rw [if_pos h2, if_pos (by omega)]
    · rw [if_neg h2, if_neg (by omega)]
theorem ownF_taken {fs : List Fl} {b : Nat} (h : ∀ f ∈ fs, 1 ≤ f.num) : ownF fs b = 0 ↔ takenB (fs.map fun f => (f.first, f.blocks)) b = false := by
  constructor
  · intro h0
    unfold takenB
    rw [List.any_map, List.any_eq_false]
    intro f hf
    simp only [Function.comp, decide_eq_true_eq]
    intro hb
    unfold ownF at h0
    cases hq : fs.find? fun f => decide (f.first ≤ b ∧ b < f.first + f.blocks) with
    | none =>
      rw [List.find?_eq_none] at hq
      exact absurd (decide_eq_true hb) (by simpa using hq f hf)
    | some g =>
      rw [hq] at h0
      have := h g (List.mem_of_find?_eq_some hq)
      simp only at h0
      omega
  · intro h0
    refine ownF_zero fun f hf hb => ?_
    unfold takenB at h0
    rw [List.any_map, List.any_eq_false] at h0
    exact absurd (decide_eq_true hb) (by simpa using h0 f hf)
/-- The best row so far. -/
def bestR (l : List (Nat × Nat)) : Nat → Nat
  | 0 => 0
  | k + 1 => max (bestR l k) (runR l (k + 1))
theorem bestR_ge (l : List (Nat × Nat)) : ∀ k i, i < k → runR l (i + 1) ≤ bestR l k
  | 0, i, h => by omega
  | k + 1, i, h => by
    unfold bestR
    by_cases e : i = k
    · subst e; omega
    · have := bestR_ge l k i (by omega); omega
theorem bestR_hit (l : List (Nat × Nat)) : ∀ k, bestR l k = 0 ∨ ∃ i, i < k ∧ runR l (i + 1) = bestR l k
  | 0 => .inl rfl
  | k + 1 => by
    unfold bestR
    rcases bestR_hit l k with h | ⟨i, h1, h2⟩
    · by_cases e : runR l (k + 1) = 0
      · left; omega
      · exact .inr ⟨k, by omega, by omega⟩
    · by_cases e : runR l (k + 1) ≤ bestR l k
      · exact .inr ⟨i, by omega, by omega⟩
      · exact .inr ⟨k, by omega, by omega⟩
theorem bestR_le (l : List (Nat × Nat)) : ∀ k, bestR l k ≤ k
  | 0 => Nat.le_refl _
  | k + 1 => by
    have h1 := bestR_le l k
    have h2 := runR_le (l := l) (k + 1)
    unfold bestR
    omega
theorem least {P : Nat → Prop} : ∀ k, (∃ i, i < k ∧ P i) → ∃ i, i < k ∧ P i ∧ ∀ j, j < i → ¬ P j
  | 0, ⟨i, h, _⟩ => by omega
  | k + 1, h => by
    by_cases h2 : ∃ i, i < k ∧ P i
    · obtain ⟨i, h3, h4⟩ := least k h2
      exact ⟨i, by omega, h4⟩
    · obtain ⟨i, h3, h4⟩ := h
      have : i = k := by
        rcases Nat.lt_or_ge i k with h5 | h5
        · exact absurd ⟨i, h5, h4⟩ h2
        · omega
      subst this
      exact ⟨i, by omega, h4, fun j hj h5 => h2 ⟨j, hj, h5⟩⟩
/-- What a Switch that adds one file answers. -/
theorem fit_cases (hg : Good D S sf lim) (hlim : lim + 1 ≤ 1000000000) (ha : D.armed = 0) (hl : D.cells.length = 40) (hnew : ∀ f ∈ S.files, f.num < a) (ha1 : 1 ≤ a ∧ a < 2147483648) (hn : 1 ≤ n) :
    (S.files.length = 24 ∧ S.switch [⟨a, 0, n⟩] [] D = (S, D, 32)) ∨ (S.files.length ≠ 24 ∧ bestR S.lie 38 < n ∧ S.switch [⟨a, 0, n⟩] [] D = (S, D, 33)) ∨
    (S.files.length ≠ 24 ∧ n ≤ bestR S.lie 38 ∧ ∃ S' D', S.switch [⟨a, 0, n⟩] [] D = (S', D', 0) ∧ (∃ sg, Good D' S' sg (lim + 1)) ∧ (∀ f ∈ S'.files, f.num < a + 1) ∧ (∀ n, Cnt D n → Cnt D' (n + 1)) ∧ D'.cells.length = 40 ∧ D'.armed = 0) := by
  have hmay : S.may [⟨a, 0, n⟩] [] = true := by
    have e1 : S.find a = none := by
      unfold Spc.find
      rw [List.find?_eq_none]
      intro f hf
      have := hnew f hf
      simp
      omega
    have h1 : (1 : Int) ≤ a := by omega
    have h2 : (a : Int) ≤ 2147483647 := by omega
    have h3 : (1 : Int) ≤ n := by omega
    simp [Spc.may, Spc.mayDrop, Spc.mayAdd, e1, h1, h2, h3]
  have hc := hg.fils.ok.count
  by_cases h24 : S.files.length = 24
  · exact .inl ⟨h24, sw_many _ _ hmay (by rw [h24]; show (24 : Int) < 24 + 1 - 0; decide)⟩
  · right
    have hcnt : (S.files.length : Int) + ([⟨a, 0, n⟩] : List Fi).length - ([] : List Int).length ≤ 24 := by show (S.files.length : Int) + 1 - 0 ≤ 24; omega
    have hlo : LieOk 40 S.lie := by have := hg.fils.ok.lieOk; rw [hl] at this; exact this
    have hfil : (S.files.filter fun f => !([] : List Int).contains (f.num : Int)) = S.files := by simp
    by_cases hb : bestR S.lie 38 < n
    · refine .inl ⟨h24, hb, ?_⟩
      have hno := placeR_none (n := 40) (bl := n) hn hlo (fun i hi e => by have := bestR_ge S.lie 38 i (by omega); omega)
      obtain ⟨x, y, e⟩ : ∃ x y, placeX 40 (n : Int) 2 (sortF S.lie) = (x, y) := ⟨_, _, rfl⟩
      rw [e] at hno
      simp only at hno
      subst hno
      exact sw_full _ _ hmay (by omega) (by rw [hl]; exact addX_no e)
    · refine .inr ⟨h24, by omega, ?_⟩
      obtain ⟨k, hk1, hk2, hk3⟩ := least (P := fun i => runR S.lie (i + 1) = n) 38 (by
        rcases bestR_hit S.lie 38 with h0 | ⟨i, h1, h2⟩
        · omega
        · obtain ⟨j, h3, h4⟩ := runR_hit hn (i + 1) (by rw [h2]; omega)
          exact ⟨j, by omega, h4⟩)
      have hpl := placeR_found (n := 40) hn hlo (by omega) hk2 hk3
      have hadd : addX D.cells.length (S.turn + 1) [⟨a, 0, n⟩] S.lie (S.files.filter fun f => !([] : List Int).contains (f.num : Int)) = some (S.files ++ [⟨a, 2 + k + 1 - n, n, S.turn + 1, 1, []⟩]) := by
        rw [hl, hfil, addX_yes hpl]
        rfl
      obtain ⟨D', e, g, c, l, r⟩ := sw_ok hg hlim (by omega) hmay hcnt hadd
      refine ⟨_, D', e, ⟨_, g⟩, fun f hf => ?_, c, l.trans hl, by omega⟩
      rcases List.mem_append.1 ((sortN_perm _).mem_iff.1 hf) with h1 | h1
      · have := hnew f h1; omega
      · rw [List.mem_singleton.1 h1]
        show a < a + 1
        omega
theorem fit_drop (hg : Good D S sf lim) (hlim : lim + 1 ≤ 1000000000) (ha : D.armed = 0) (hl : D.cells.length = 40) (hnew : ∀ f ∈ S.files, f.num < a) {f : Fl} (hf : f ∈ S.files) :
    ∃ S' D', S.switch [] [(f.num : Int)] D = (S', D', 0) ∧ (∃ sg, Good D' S' sg (lim + 1)) ∧ (∀ f ∈ S'.files, f.num < a) ∧ (∀ n, Cnt D n → Cnt D' (n + 1)) ∧ D'.cells.length = 40 ∧ D'.armed = 0 := by
  have hfi := find_is hg hf
  have hmay : S.may [] [(f.num : Int)] = true := by simp [Spc.may, Spc.mayDrop, Spc.mayAdd, hfi]
  have hc := hg.fils.ok.count
  obtain ⟨D', e, g, c, l, r⟩ := sw_ok hg hlim (add := []) (drop := [(f.num : Int)]) (fs := S.files.filter fun g => !([(f.num : Int)] : List Int).contains (g.num : Int)) (by omega) hmay (by show (S.files.length : Int) + 0 - 1 ≤ 24; omega) rfl
  refine ⟨_, D', e, ⟨_, g⟩, fun x hx => ?_, c, l.trans hl, by omega⟩
  have h1 := (sortN_perm _).mem_iff.1 hx
  exact hnew x (List.mem_filter.1 h1).1
end
/-- The blocks' owners, as they lie. -/
def owA (ow : Nat → Int) : Array Value := ((List.range 41).map fun b => Value.int .i64 (ow b)).toArray
theorem owA_get {ow : Nat → Int} {b : Nat} (h : b < 41) : (owA ow)[b]? = some (.int .i64 (ow b)) := by
  unfold owA
  rw [List.getElem?_toArray, List.getElem?_map, List.getElem?_range h]
  rfl
theorem owA_set {ow : Nat → Int} {b : Nat} (v : Int) (h : b < 41) : (owA ow).setIfInBounds b (.int .i64 v) = owA fun x => if x = b then v else ow x := by
  unfold owA
  rw [List.setIfInBounds_toArray]
  congr 1
  apply List.ext_getElem?
  intro j
  rw [List.getElem?_set, List.getElem?_map, List.getElem?_map]
  by_cases e : b = j
  · subst e
    rw [if_pos rfl, if_pos (by simpa using h), List.getElem?_range h]
    simp
  · rw [if_neg e]
    rcases Nat.lt_or_ge j 41 with hj | hj
    · rw [List.getElem?_range hj]
      simp only [Option.map_some]
      rw [if_neg (fun e2 => e e2.symm)]
    · rw [List.getElem?_eq_none (by simpa using hj)]; rfl
/-- What a round begins with. -/
structure FitOk (D : Dk) (S : Spc) (i : Nat) : Prop where
  nums : ∀ f ∈ S.files, f.num < 1 + i
  good : ∃ sf lim, Good D S sf lim ∧ lim ≤ 1 + i
  cnt : Cnt D (1 + i)
  armed : D.armed = 0
  len : D.cells.length = 40
set_option maxHeartbeats 16000000 in
theorem spaceFits_walk (A : Option Addr) (c : Nat) (ks : List Int) (w : World) (hp : ks.length ≤ c ∧ c ≤ maxLen ∧ RdV w A (ks.map fun n => .int .i64 n) ∧ ks.length ≤ 17592186043904 ∧ ∀ n ∈ ks, -9223372036854775808 ≤ n ∧ n ≤ 9223372036854775807) :
    Calls Try.prog 5 #[.slice A ks.length c] w (Asked true w) := by
  obtain ⟨D0, hD0⟩ : ∃ D, D = beginD 40 := ⟨_, rfl⟩
  have hg0 : Good D0 ⟨1, 1, []⟩ (fun _ => 0) 1 := by rw [hD0]; exact begin_good (by omega) (by omega)
  have hl0 : D0.cells.length = 40 := by rw [hD0]; exact begin_len
  have HCh0 : Hid (FitOk D0 ⟨1, 1, []⟩ 0) := ⟨by simp, ⟨_, _, hg0, by omega⟩, by rw [hD0]; exact begin_cnt, by rw [hD0]; exact begin_armed, hl0⟩
  have HB : Hid (Calls Try.prog 24 #[.int .i64 40] w fun e w' => ∃ d s, e = .returned (.tuple #[.pointer (some ⟨d, 0, none⟩), .pointer (some ⟨s, 0, none⟩)]) ∧ Sat w (SpaceP s d ⟨1, 1, []⟩ * (Disk d D0 * Emp)) w') := by rw [hD0]; exact begin_any (w0 := w) (F := Emp) 40 (by omega) (Sat.start w)
  have HP := Lib.hid hp
  have hkl : ks.length ≤ 17592186043904 := by omega
  clear hD0 hg0 hl0 hp
  go_enter Try.func5, Try.ntmps5
  go_upto_region 2 with (go_at_call 24; (with_reducible refine HB.out.mono ?_); rintro e w2 ⟨d, s, rfl, hs⟩; have HS2 := Lib.hid hs; clear hs)
  go_wp2_with (go_at_call 26; have h9 := wakes3_any HS2.out; (with_reducible refine h9.mono ?_); rintro e w3 ⟨rfl, hs⟩; have HS3 := Lib.hid hs; clear hs h9)
  clear HB HS2
  go_loopw [5] (fun iv wr => ∃ (i : Nat) (S : Spc) (D : Dk), i ≤ ks.length ∧ i ≤ 40 ∧ iv = .int .i64 (i : Int) ∧ Hid (FitOk D S i ∧ Sat w (SpaceP s d S * (Disk d D * Emp)) wr)) (fun iv _ => 40 - (intOf iv).toNat)
  case atStart => exact ⟨0, _, D0, by omega, by omega, rfl, HCh0.out, HS3.out⟩
  case round =>
    obtain ⟨i, S, D, hi, hi40, rfl, HD⟩ := hrel
    by_cases hlt : i < ks.length ∧ i < 40
    · have hk2 : (i : Int) < ks.length := by omega
      have hk3 : (i : Int) < 40 := by omega
      obtain ⟨b, o, rfl, q0⟩ := int_get (HP.out.2.2.1.new HD.out.2.chg) hlt.1
      have hxw := HP.out.2.2.2.2 ks[i] (List.getElem_mem hlt.1)
      have HPc : Hid (∀ W, Chg No w W → W.cell? ⟨b, o + i, none⟩ = some (.int .i64 ks[i])) := fun W hW => by
        obtain ⟨b', o', e', hc'⟩ := int_get (HP.out.2.2.1.new hW) hlt.1
        injection e' with e'
        injection e' with e1 e2
        subst e1; subst e2
        exact hc'
      generalize ks[i] = x at *
      obtain ⟨n, hn⟩ : ∃ n : Nat, n = (1 + x % 16).toNat := ⟨_, rfl⟩
      have hn16 : 1 ≤ n ∧ n ≤ 16 := by omega
      have hma : bits .and .i64 x 15 = (n : Int) - 1 := by rw [and15]; omega
      have hka : (1 : Int) + ((n : Int) - 1) = n := by omega
      have hn16' : n ≤ 16 := hn16.2
      have Hn16 := Lib.hid hn16
      obtain ⟨hnm, ⟨sf, lim, hg, hlim⟩, hcn, har, hln⟩ := HD.out.1
      have HG := Lib.hid hg; have HNm := Lib.hid hnm; have HLim := Lib.hid hlim; have HC := Lib.hid hcn; have HAr := Lib.hid har; have HLn := Lib.hid hln
      have HS := Lib.hid HD.out.2
      have hcount := hg.fils.ok.count
      obtain ⟨fs, hfs⟩ : ∃ fs, fs = S.files := ⟨_, rfl⟩
      have HFs := Lib.hid hfs
      have HEach : Hid (∀ f ∈ fs, 1 ≤ f.num ∧ f.num < 41 ∧ 2 ≤ f.first ∧ 1 ≤ f.blocks ∧ f.first + f.blocks ≤ 40) := fun f hf => by
        rw [hfs] at hf
        obtain ⟨a1, a2, a3, a4, a5, a6⟩ := hg.fils.ok.each f hf
        have := hnm f hf
        exact ⟨a1, by omega, a3, a4, by omega⟩
      have HApart : Hid (fs.Pairwise fun a b => a.first + a.blocks ≤ b.first ∨ b.first + b.blocks ≤ a.first) := by rw [hfs]; exact hg.fils.ok.apart
      have hfl24 : fs.length ≤ 24 := by rw [hfs]; exact hcount
      have HFi : Hid (Calls Try.prog 32 #[.pointer (some ⟨s, 0, none⟩)] wr fun e w' => ∃ A5 c5, e = .returned (.slice A5 fs.length c5) ∧ Sat w (Row 35 3 (.slice A5 fs.length c5) fs.length ((fs.map lieOf).flatMap lieV) * (SpaceP s d S * (Disk d D * Emp))) w') := (files_sp hg HS.out).mono fun e w' ⟨u, h1, h2⟩ => by
        rw [← hfs] at h2
        obtain ⟨A5, c5, rfl, _⟩ := h2.row_sl
        exact ⟨A5, c5, h1, h2⟩
      clear HD hnm hg hlim hcn har hln hcount hfs hn hn16 hlt
      go_upto_region 9 with (go_at_call 32; (with_reducible refine HFi.out.mono ?_); rintro e w5 ⟨A5, c5, rfl, hs⟩; have HS5 := Lib.hid hs; clear hs)
      clear q0 hma HFi HS
      have hs6 : Sat w (Pt w5.heap.size 58 (owA (ownF [])) * (Row 35 3 (.slice A5 fs.length c5) fs.length ((fs.map lieOf).flatMap lieV) * (SpaceP s d S * (Disk d D * Emp)))) (w5.alloc (.cells (owA (ownF [])) 58)) := HS5.out.allocPt _ _
      go_upto_region 10 with fail
      generalize hW : World.alloc w5 _ = w6
      have hs7 : Sat w (Pt w5.heap.size 58 (owA (ownF [])) * (Row 35 3 (.slice A5 fs.length c5) fs.length ((fs.map lieOf).flatMap lieV) * (SpaceP s d S * (Disk d D * Emp)))) w6 := by rw [← hW]; exact hs6
      clear hs6 hW
      revert hs7
      generalize w5.heap.size = gO
      intro hs7
      have HS6 := Lib.hid hs7
      clear hs7 HS5
      go_wp2_with fail
      go_loopw [9] (fun kv wr => ∃ k : Nat, k ≤ fs.length ∧ kv = .int .i64 (k : Int) ∧ Hid (Sat w (Pt gO 58 (owA (ownF (fs.take k))) * (Row 35 3 (.slice A5 fs.length c5) fs.length ((fs.map lieOf).flatMap lieV) * (SpaceP s d S * (Disk d D * Emp)))) wr)) (fun kv _ => fs.length - (intOf kv).toNat)
      case atStart => exact ⟨0, by omega, rfl, HS6.out⟩
      case round =>
        obtain ⟨k, hk, rfl, HDk⟩ := hrel
        by_cases hkf : k < fs.length
        · have hk4 : (k : Int) < fs.length := by omega
          have hkm : k + 1 ≤ fs.length := hkf
          obtain ⟨b5, o5, rfl, z0, z1, z2⟩ := lie_at (lie := fs.map lieOf) HDk.out.up2.row_rdvX (k := k) (by simpa using hkf)
          simp only [List.getElem_map] at z0 z1 z2
          have hfe := HEach.out fs[k] (List.getElem_mem hkf)
          have HOwn : Hid (∀ g ∈ fs.take k, ∀ b, fs[k].first ≤ b → b < fs[k].first + fs[k].blocks → ¬ (g.first ≤ b ∧ b < g.first + g.blocks)) := fun g hg b hb1 hb2 hb3 => by
            obtain ⟨j, hj, rfl⟩ := List.getElem_of_mem hg
            rw [List.length_take] at hj
            have h9 := List.pairwise_iff_getElem.1 HApart.out j k (by omega) hkf (by omega)
            rw [List.getElem_take] at hb3
            omega
          have HTk : Hid (fs.take (k + 1) = fs.take k ++ [fs[k]]) := List.take_succ_eq_append_getElem hkf
          generalize fs[k] = f at *
          unfold lieOf at z0 z1 z2
          dsimp only at z0 z1 z2
          obtain ⟨f1, f2, f3, f4, f5⟩ := hfe
          obtain ⟨nm, hnm⟩ : ∃ n, n = f.num := ⟨_, rfl⟩
          obtain ⟨fi, hfi⟩ : ∃ n, n = f.first := ⟨_, rfl⟩
          obtain ⟨bl, hbl⟩ : ∃ n, n = f.blocks := ⟨_, rfl⟩
          rw [← hnm] at z0 f1 f2
          rw [← hfi] at z1 f3 f5
          rw [← hbl] at z2 f4 f5
          have HNm3 : Hid (f.num = nm ∧ f.first = fi ∧ f.blocks = bl) := ⟨hnm.symm, hfi.symm, hbl.symm⟩
          clear hnm hfi hbl
          have g1 : ¬ (fi : Int) < 2 := by omega
          have g2 : ¬ (40 : Int) < (fi : Int) + bl := by omega
          have g3 : ¬ (bl : Int) < 1 := by omega
          have hs7 := HDk.out.allocPt 35 #[.int .i64 (nm : Int), .int .i64 (fi : Int), .int .i64 (bl : Int)]
          go_upto_region 14 with fail
          revert hs7
          generalize World.alloc wr _ = w7
          generalize wr.heap.size = B7
          intro hs7
          have HS7 := Lib.hid hs7
          have p0 : w7.cell? ⟨B7, 0, none⟩ = some (.int .i64 (nm : Int)) := hs7.cell 0
          have p1 : w7.cell? ⟨B7, 1, none⟩ = some (.int .i64 (fi : Int)) := hs7.cell 1
          have p2 : w7.cell? ⟨B7, 2, none⟩ = some (.int .i64 (bl : Int)) := hs7.cell 2
          clear hs7 z0 z1 z2
          go_wp2_with fail
          clear p0 p1 p2
          go_loopw [11] (fun bv wr => ∃ (m J : Nat), m ≤ bl ∧ J = fi + m ∧ bv = .int .i64 (J : Int) ∧ Hid (Sat w (Pt B7 35 #[.int .i64 (nm : Int), .int .i64 (fi : Int), .int .i64 (bl : Int)] * (Pt gO 58 (owA (ownP (fs.take k) f m)) * (Row 35 3 (.slice (some ⟨b5, o5, none⟩) fs.length c5) fs.length ((fs.map lieOf).flatMap lieV) * (SpaceP s d S * (Disk d D * Emp))))) wr)) (fun bv _ => fi + bl - (intOf bv).toNat)
          case atStart => exact ⟨0, fi, by omega, rfl, rfl, by rw [ownP_zero]; exact HS7.out⟩
          case round =>
            obtain ⟨m, J, hm, hJ, rfl, HDm⟩ := hrel
            have p0 : wr.cell? ⟨B7, 0, none⟩ = some (.int .i64 (nm : Int)) := HDm.out.cell 0
            have p1 : wr.cell? ⟨B7, 1, none⟩ = some (.int .i64 (fi : Int)) := HDm.out.cell 1
            have p2 : wr.cell? ⟨B7, 2, none⟩ = some (.int .i64 (bl : Int)) := HDm.out.cell 2
            by_cases hmb : m < bl
            · have hj4 : (J : Int) < (fi : Int) + bl := by omega
              have hj41 : J < 41 := by omega
              have hmm : m + 1 ≤ bl := hmb
              have hz : ownP (fs.take k) f m J = 0 := by
                unfold ownP
                rw [if_neg (by rw [HNm3.out.2.1]; omega)]
                refine ownF_zero fun g hg hb => HOwn.out g hg J (by rw [HNm3.out.2.1]; omega) (by rw [HNm3.out.2.1, HNm3.out.2.2]; omega) hb
              have p4 : wr.cell? ⟨gO, J, none⟩ = some (.int .i64 0) := by
                have h9 := HDm.out.up2.cell J
                rw [owA_get hj41, hz] at h9
                exact h9
              have p5 := HDm.out.up2.frozen J
              have hst := HDm.out.up2.set J (.int .i64 (nm : Int))
              rw [owA_set (nm : Int) hj41] at hst
              have hfn : (fun x => if x = J then (nm : Int) else ownP (fs.take k) f m x) = ownP (fs.take k) f (m + 1) := by
                funext x
                rw [ownP_succ, HNm3.out.1, HNm3.out.2.1, hJ]
              rw [hfn] at hst
              have HSt := Lib.hid hst
              have hJ1 : J + 1 = fi + (m + 1) := by omega
              clear hz hst hfn hJ
              go_wp2_with fail
              go_roundw
              · exact ⟨m + 1, J + 1, hmm, hJ1, by push_cast; rfl, HSt.out.up2⟩
              · simp [intOf]; omega
            · obtain rfl : m = bl := by omega
              have hj4 : ¬ (J : Int) < (fi : Int) + m := by omega
              have HEnd : Hid (Sat w (Pt gO 58 (owA (ownF (fs.take (k + 1)))) * (Row 35 3 (.slice (some ⟨b5, o5, none⟩) fs.length c5) fs.length ((fs.map lieOf).flatMap lieV) * (SpaceP s d S * (Disk d D * Emp)))) wr) := by
                have h9 := HDm.out.right
                have h10 := ownP_all (fs := fs.take k) (f := f) (fun b h1 h2 g hg => HOwn.out g hg b h1 h2)
                rw [HNm3.out.2.2] at h10
                rw [h10, ← HTk.out] at h9
                exact h9
              clear hJ
              go_wp2_with fail
              go_roundw
              · exact ⟨k + 1, hkm, by push_cast; rfl, HEnd.out⟩
              · simp [intOf]; omega
        · have HK : Hid (k = fs.length) := by unfold Hid; omega
          have hk4 : ¬ (k : Int) < fs.length := by omega
          have HS8 : Hid (Sat w (Pt gO 58 (owA (ownF fs)) * (Row 35 3 (.slice A5 fs.length c5) fs.length ((fs.map lieOf).flatMap lieV) * (SpaceP s d S * (Disk d D * Emp)))) wr) := by
            have h9 := HDk.out
            rw [HK.out, List.take_length] at h9
            exact h9
          have q1 := HPc.out wr HS8.out.chg
          clear HDk HK HS6
          have HStk : Hid (S.lie = fs.map fun f => (f.first, f.blocks)) := by unfold Hid; rw [HFs.out]; rfl
          have HTak : Hid (∀ b, ownF fs b = 0 ↔ takenB S.lie b = false) := fun b => by rw [HStk.out]; exact ownF_taken (fun f hf => (HEach.out f hf).1)
          obtain ⟨N1, hN1⟩ : ∃ N, N = 1 + i := ⟨_, rfl⟩
          have hk1 : (1 : Int) + (i : Int) = N1 := by omega
          have HN1 : Hid (N1 = 1 + i) := hN1
          have hN1s : N1 < 42 := by omega
          clear hN1
          by_cases hcs : bits .and .i64 (x / 16) 3 = 3 ∧ 0 < fs.length
          · obtain ⟨hx3, hl0⟩ := hcs
            have hl0' : (0 : Int) < fs.length := by omega
            obtain ⟨j, hj⟩ : ∃ j, j = wi (x / 64) ((fs.length : Int) - 1) := ⟨_, rfl⟩
            have hjl : j < fs.length := by have := wi_le (x / 64) ((fs.length : Int) - 1) (by omega); omega
            have HWi := Lib.hid (within0 (x / 64) ((fs.length : Int) - 1) wr (by omega) (by omega))
            rw [← hj] at HWi
            obtain ⟨b5, o5, rfl, z0, _, _⟩ := lie_at (lie := fs.map lieOf) HS8.out.up2.row_rdvX (k := j) (by simpa using hjl)
            simp only [List.getElem_map] at z0
            have hfm : fs[j] ∈ S.files := by rw [← HFs.out]; exact List.getElem_mem hjl
            obtain ⟨S2, D2, e2, ⟨sg, hg2⟩, hn2, hc2, hl2, ha2⟩ := fit_drop HG.out (by have := HLim.out; omega) HAr.out HLn.out HNm.out hfm
            have HE2 := Lib.hid e2; have HG2 := Lib.hid hg2; have HN2 := Lib.hid hn2; have HC2 := Lib.hid (hc2 _ HC.out); have HL2 := Lib.hid hl2; have HA2 := Lib.hid ha2
            have hfe := HEach.out fs[j] (List.getElem_mem hjl)
            have HAr0 : Hid (D.armed ≤ 9223372036854775807) := by unfold Hid; have := HAr.out; omega
            generalize fs[j] = f at *
            unfold lieOf at z0
            dsimp only at z0
            obtain ⟨nm, hnm⟩ : ∃ n, n = f.num := ⟨_, rfl⟩
            rw [← hnm] at z0 HE2
            have hnm41 : nm < 41 := by rw [hnm]; exact hfe.2.1
            clear e2 hg2 hn2 hc2 hl2 ha2 hfe hfm hnm hj hl0
            have hj4 : (j : Int) < fs.length := by omega
            have h8 := HS8.out.allocPt 3 #[.int .i64 (nm : Int)]
            have HSw : Hid (Calls Try.prog 17 #[.pointer (some ⟨s, 0, none⟩), .slice none 0 0, .slice (some ⟨wr.heap.size, 0, none⟩) 1 1] (wr.alloc (.cells #[.int .i64 (nm : Int)] 3)) fun e w' => e = .returned (.int .i64 0) ∧ Sat w (SpaceP s d S2 * (Disk d D2 * Emp)) w') := (sw_drop wr.heap.size 1 1 _ [(nm : Int)] HG.out (by have := HLim.out; omega) HC.out (by omega) HAr0.out (h8.up2.right.up2.right) rfl rfl (by omega) (fun x hx => by rw [List.mem_singleton.1 hx]; omega) HE2.out)
            clear h8
            go_wp2_with (first
              | (go_at_call 28; (with_reducible refine HWi.out.mono ?_); rintro e wx ⟨rfl, rfl⟩)
              | (go_at_call 17; (with_reducible refine HSw.out.mono ?_); rintro e w12 ⟨rfl, hs⟩; have HS12 := Lib.hid hs; clear hs)
              | (go_at_call 27; (with_reducible refine (num3_any _ _).mono ?_); rintro e wx ⟨rfl, rfl⟩))
            go_roundw
            · exact ⟨i + 1, S2, D2, by omega, by omega, by push_cast; rfl, ⟨fun f hf => by have := HN2.out f hf; omega, ⟨_, _, HG2.out, by have := HLim.out; omega⟩, HC2.out.mono (by omega), HA2.out, HL2.out⟩, HS12.out⟩
            · simp [intOf]; omega
          · have hbr : bits .and .i64 (x / 16) 3 = 3 → ¬ (0 : Int) < fs.length := fun h9 h10 => hcs ⟨h9, by omega⟩
            clear hcs
            obtain ⟨l, hl⟩ : ∃ l, l = S.lie := ⟨_, rfl⟩
            have HL := Lib.hid hl
            rw [← hl] at HTak
            have HCut : Hid (∀ (Z : Prop), (bits .and .i64 (x / 16) 3 = 3 → ¬ (0 : Int) < fs.length) → Z → Z) := fun _ _ h => h
            clear hl
            by_cases hx3 : bits .and .i64 (x / 16) 3 = 3
            · have hl0 := hbr hx3
              clear hbr HCut
              go_wp2_with fail
              go_loopw [12, 13, 14] (fun rv tv bv wr => ∃ (k r t : Nat), k ≤ 38 ∧ r ≤ 38 ∧ t ≤ 38 ∧ rv = .int .i64 (r : Int) ∧ tv = .int .i64 (t : Int) ∧ bv = .int .i64 ((2 + k : Nat) : Int) ∧ Hid (r = runR l k ∧ t = bestR l k ∧ Sat w (Pt gO 58 (owA (ownF fs)) * (Row 35 3 (.slice A5 fs.length c5) fs.length ((fs.map lieOf).flatMap lieV) * (SpaceP s d S * (Disk d D * Emp)))) wr)) (fun _ _ bv _ => 40 - (intOf bv).toNat)
              case atStart => exact ⟨0, 0, 0, by omega, by omega, by omega, rfl, rfl, rfl, rfl, rfl, HS8.out⟩
              case round =>
                obtain ⟨k, r, t, hk, hr38, ht38, rfl, rfl, rfl, HDr⟩ := hrel
                obtain ⟨J, hJ⟩ : ∃ J, J = 2 + k := ⟨_, rfl⟩
                rw [← hJ]
                by_cases hk38 : k < 38
                · have hj4 : (J : Int) < 40 := by omega
                  have hj41 : J < 41 := by omega
                  have p4 : wr.cell? ⟨gO, J, none⟩ = some (.int .i64 (ownF fs J)) := by
                    have h9 := HDr.out.2.2.cell J
                    rw [owA_get hj41] at h9
                    exact h9
                  have hru : runR l (k + 1) = if takenB l (2 + k) = true then 0 else runR l k + 1 := rfl
                  have hbe : bestR l (k + 1) = max (bestR l k) (runR l (k + 1)) := rfl
                  have hr1 : runR l (k + 1) ≤ k + 1 := runR_le (k + 1)
                  rw [← HDr.out.1, ← hJ] at hru
                  rw [← HDr.out.2.1] at hbe
                  have hrle : r ≤ k := by rw [HDr.out.1]; exact runR_le k
                  have hta := HTak.out J
                  have HSr := Lib.hid HDr.out.2.2
                  have hkm : k + 1 ≤ 38 := hk38
                  have hJ1 : J + 1 = 2 + (k + 1) := by omega
                  obtain ⟨r2, hr2⟩ : ∃ r2, r2 = runR l (k + 1) := ⟨_, rfl⟩
                  obtain ⟨t2, ht2⟩ : ∃ t2, t2 = bestR l (k + 1) := ⟨_, rfl⟩
                  rw [← hr2] at hru hbe hr1
                  rw [← ht2] at hbe
                  have HR2 := Lib.hid hr2; have HT2 := Lib.hid ht2
                  clear HDr hJ hr2 ht2 hk38
                  by_cases hz : ownF fs J = 0
                  · rw [hz] at p4
                    rw [hta.1 hz] at hru
                    have hr3 : r2 = r + 1 := by simpa using hru
                    clear hru hta hz
                    subst hr3
                    by_cases hm9 : (t : Int) < (r : Int) + 1
                    · have ht3 : t2 = r + 1 := by omega
                      clear hbe
                      subst ht3
                      go_wp2_with fail
                      go_roundw
                      · exact ⟨k + 1, r + 1, r + 1, hkm, by omega, by omega, by push_cast; rfl, by (congr 1; omega), by rw [← hJ1]; push_cast; rfl, HR2.out, HT2.out, HSr.out⟩
                      · simp [intOf]; omega
                    · have ht3 : t2 = t := by omega
                      clear hbe
                      subst ht3
                      go_wp2_with fail
                      go_roundw
                      · exact ⟨k + 1, r + 1, t2, hkm, by omega, by omega, by push_cast; rfl, by (congr 1; omega), by rw [← hJ1]; push_cast; rfl, HR2.out, HT2.out, HSr.out⟩
                      · simp [intOf]; omega
                  · have hzt : takenB l J = true := by
                      cases hb9 : takenB l J with
                      | true => rfl
                      | false => exact absurd (hta.2 hb9) hz
                    rw [hzt, if_pos rfl] at hru
                    generalize ownF fs J = ov at *
                    have ht3 : t2 = t := by omega
                    clear hbe hta hzt
                    subst hru
                    subst ht3
                    go_wp2_with fail
                    go_roundw
                    · exact ⟨k + 1, 0, t2, hkm, by omega, by omega, rfl, rfl, by rw [← hJ1]; push_cast; rfl, HR2.out, HT2.out, HSr.out⟩
                    · simp [intOf]; omega
                · have hj4 : ¬ (J : Int) < 40 := by omega
                  have HK38 : Hid (k = 38) := by unfold Hid; omega
                  have HBest : Hid (t = bestR S.lie 38) := by
                    have h9 := HDr.out.2.1
                    rw [HK38.out, HL.out] at h9
                    exact h9
                  have HSr := Lib.hid HDr.out.2.2
                  have hfc := fit_cases HG.out (by have := HLim.out; omega) HAr.out HLn.out (a := N1) (n := n) (fun f hf => by have h9 := HNm.out f hf; have h10 := HN1.out; omega) ⟨by have := HN1.out; omega, by omega⟩ Hn16.out.1
                  rw [← HBest.out, ← HFs.out] at hfc
                  have HFc := Lib.hid hfc
                  have HAr0 : Hid (D.armed ≤ 9223372036854775807) := by unfold Hid; have := HAr.out; omega
                  have h8 := HSr.out.allocPt 35 #[.int .i64 (N1 : Int), .int .i64 0, .int .i64 (n : Int)]
                  have HSwg : Hid (∀ S2 D2 z, S.switch [⟨N1, 0, n⟩] [] D = (S2, D2, z) → Calls Try.prog 17 #[.pointer (some ⟨s, 0, none⟩), .slice (some ⟨wr.heap.size, 0, none⟩) 1 1, .slice none 0 0] (wr.alloc (.cells #[.int .i64 (N1 : Int), .int .i64 0, .int .i64 (n : Int)] 35)) fun e w' => e = .returned (.int .i64 z) ∧ Sat w (SpaceP s d S2 * (Disk d D2 * Emp)) w') := fun S2 D2 z hz => sw_add wr.heap.size 1 1 _ [⟨N1, 0, n⟩] HG.out (by have := HLim.out; omega) HC.out (by omega) HAr0.out (h8.up2.right.up2.right) rfl rfl (by omega) (fun f hf => by rw [List.mem_singleton.1 hf]; exact ⟨by dsimp only; omega, by dsimp only; omega⟩) hz
                  clear HDr hfc h8 HSr hJ
                  rcases HFc.out with ⟨h24, hsw⟩ | ⟨h24, hbn, hsw⟩ | ⟨h24, hbn, S2, D2, hsw, ⟨sg, hg2⟩, hn2, hc2, hl2, ha2⟩
                  · exfalso; omega
                  · have h24' : ¬ (fs.length : Int) = 24 := by omega
                    have hbn' : (t : Int) < n := by omega
                    have HSw := Lib.hid (HSwg.out _ _ _ hsw)
                    clear hsw HFc HSwg
                    go_wp2_with (first | (go_at_call 17; (with_reducible refine HSw.out.mono ?_); rintro e w12 ⟨rfl, hs⟩; have HS12 := Lib.hid hs; clear hs) | (go_at_call 27; (with_reducible refine (num3_any _ _).mono ?_); rintro e wx ⟨rfl, rfl⟩))
                    go_roundw
                    · exact ⟨i + 1, S, D, by omega, by omega, by push_cast; rfl, ⟨fun f hf => by have := HNm.out f hf; omega, ⟨_, _, HG.out, by have := HLim.out; omega⟩, HC.out.mono (by omega), HAr.out, HLn.out⟩, HS12.out⟩
                    · simp [intOf]; omega
                  · have h24' : ¬ (fs.length : Int) = 24 := by omega
                    have hbn' : ¬ (t : Int) < n := by omega
                    have HSw := Lib.hid (HSwg.out _ _ _ hsw)
                    have HG2 := Lib.hid hg2; have HN2 := Lib.hid hn2; have HC2 := Lib.hid (hc2 _ HC.out); have HL2 := Lib.hid hl2; have HA2 := Lib.hid ha2
                    clear hsw HFc HSwg hg2 hn2 hc2 hl2 ha2
                    go_wp2_with (first | (go_at_call 17; (with_reducible refine HSw.out.mono ?_); rintro e w12 ⟨rfl, hs⟩; have HS12 := Lib.hid hs; clear hs) | (go_at_call 27; (with_reducible refine (num3_any _ _).mono ?_); rintro e wx ⟨rfl, rfl⟩))
                    go_roundw
                    · exact ⟨i + 1, S2, D2, by omega, by omega, by push_cast; rfl, ⟨fun f hf => by have := HN2.out f hf; have h10 := HN1.out; omega, ⟨_, _, HG2.out, by have := HLim.out; omega⟩, HC2.out.mono (by omega), HA2.out, HL2.out⟩, HS12.out⟩
                    · simp [intOf]; omega
            ·
              clear hbr HCut
              go_wp2_with fail
              go_loopw [12, 13, 14] (fun rv tv bv wr => ∃ (k r t : Nat), k ≤ 38 ∧ r ≤ 38 ∧ t ≤ 38 ∧ rv = .int .i64 (r : Int) ∧ tv = .int .i64 (t : Int) ∧ bv = .int .i64 ((2 + k : Nat) : Int) ∧ Hid (r = runR l k ∧ t = bestR l k ∧ Sat w (Pt gO 58 (owA (ownF fs)) * (Row 35 3 (.slice A5 fs.length c5) fs.length ((fs.map lieOf).flatMap lieV) * (SpaceP s d S * (Disk d D * Emp)))) wr)) (fun _ _ bv _ => 40 - (intOf bv).toNat)
              case atStart => exact ⟨0, 0, 0, by omega, by omega, by omega, rfl, rfl, rfl, rfl, rfl, HS8.out⟩
              case round =>
                obtain ⟨k, r, t, hk, hr38, ht38, rfl, rfl, rfl, HDr⟩ := hrel
                obtain ⟨J, hJ⟩ : ∃ J, J = 2 + k := ⟨_, rfl⟩
                rw [← hJ]
                by_cases hk38 : k < 38
                · have hj4 : (J : Int) < 40 := by omega
                  have hj41 : J < 41 := by omega
                  have p4 : wr.cell? ⟨gO, J, none⟩ = some (.int .i64 (ownF fs J)) := by
                    have h9 := HDr.out.2.2.cell J
                    rw [owA_get hj41] at h9
                    exact h9
                  have hru : runR l (k + 1) = if takenB l (2 + k) = true then 0 else runR l k + 1 := rfl
                  have hbe : bestR l (k + 1) = max (bestR l k) (runR l (k + 1)) := rfl
                  have hr1 : runR l (k + 1) ≤ k + 1 := runR_le (k + 1)
                  rw [← HDr.out.1, ← hJ] at hru
                  rw [← HDr.out.2.1] at hbe
                  have hrle : r ≤ k := by rw [HDr.out.1]; exact runR_le k
                  have hta := HTak.out J
                  have HSr := Lib.hid HDr.out.2.2
                  have hkm : k + 1 ≤ 38 := hk38
                  have hJ1 : J + 1 = 2 + (k + 1) := by omega
                  obtain ⟨r2, hr2⟩ : ∃ r2, r2 = runR l (k + 1) := ⟨_, rfl⟩
                  obtain ⟨t2, ht2⟩ : ∃ t2, t2 = bestR l (k + 1) := ⟨_, rfl⟩
                  rw [← hr2] at hru hbe hr1
                  rw [← ht2] at hbe
                  have HR2 := Lib.hid hr2; have HT2 := Lib.hid ht2
                  clear HDr hJ hr2 ht2 hk38
                  by_cases hz : ownF fs J = 0
                  · rw [hz] at p4
                    rw [hta.1 hz] at hru
                    have hr3 : r2 = r + 1 := by simpa using hru
                    clear hru hta hz
                    subst hr3
                    by_cases hm9 : (t : Int) < (r : Int) + 1
                    · have ht3 : t2 = r + 1 := by omega
                      clear hbe
                      subst ht3
                      go_wp2_with fail
                      go_roundw
                      · exact ⟨k + 1, r + 1, r + 1, hkm, by omega, by omega, by push_cast; rfl, by (congr 1; omega), by rw [← hJ1]; push_cast; rfl, HR2.out, HT2.out, HSr.out⟩
                      · simp [intOf]; omega
                    · have ht3 : t2 = t := by omega
                      clear hbe
                      subst ht3
                      go_wp2_with fail
                      go_roundw
                      · exact ⟨k + 1, r + 1, t2, hkm, by omega, by omega, by push_cast; rfl, by (congr 1; omega), by rw [← hJ1]; push_cast; rfl, HR2.out, HT2.out, HSr.out⟩
                      · simp [intOf]; omega
                  · have hzt : takenB l J = true := by
                      cases hb9 : takenB l J with
                      | true => rfl
                      | false => exact absurd (hta.2 hb9) hz
                    rw [hzt, if_pos rfl] at hru
                    generalize ownF fs J = ov at *
                    have ht3 : t2 = t := by omega
                    clear hbe hta hzt
                    subst hru
                    subst ht3
                    go_wp2_with fail
                    go_roundw
                    · exact ⟨k + 1, 0, t2, hkm, by omega, by omega, rfl, rfl, by rw [← hJ1]; push_cast; rfl, HR2.out, HT2.out, HSr.out⟩
                    · simp [intOf]; omega
                · have hj4 : ¬ (J : Int) < 40 := by omega
                  have HK38 : Hid (k = 38) := by unfold Hid; omega
                  have HBest : Hid (t = bestR S.lie 38) := by
                    have h9 := HDr.out.2.1
                    rw [HK38.out, HL.out] at h9
                    exact h9
                  have HSr := Lib.hid HDr.out.2.2
                  have hfc := fit_cases HG.out (by have := HLim.out; omega) HAr.out HLn.out (a := N1) (n := n) (fun f hf => by have h9 := HNm.out f hf; have h10 := HN1.out; omega) ⟨by have := HN1.out; omega, by omega⟩ Hn16.out.1
                  rw [← HBest.out, ← HFs.out] at hfc
                  have HFc := Lib.hid hfc
                  have HAr0 : Hid (D.armed ≤ 9223372036854775807) := by unfold Hid; have := HAr.out; omega
                  have h8 := HSr.out.allocPt 35 #[.int .i64 (N1 : Int), .int .i64 0, .int .i64 (n : Int)]
                  have HSwg : Hid (∀ S2 D2 z, S.switch [⟨N1, 0, n⟩] [] D = (S2, D2, z) → Calls Try.prog 17 #[.pointer (some ⟨s, 0, none⟩), .slice (some ⟨wr.heap.size, 0, none⟩) 1 1, .slice none 0 0] (wr.alloc (.cells #[.int .i64 (N1 : Int), .int .i64 0, .int .i64 (n : Int)] 35)) fun e w' => e = .returned (.int .i64 z) ∧ Sat w (SpaceP s d S2 * (Disk d D2 * Emp)) w') := fun S2 D2 z hz => sw_add wr.heap.size 1 1 _ [⟨N1, 0, n⟩] HG.out (by have := HLim.out; omega) HC.out (by omega) HAr0.out (h8.up2.right.up2.right) rfl rfl (by omega) (fun f hf => by rw [List.mem_singleton.1 hf]; exact ⟨by dsimp only; omega, by dsimp only; omega⟩) hz
                  clear HDr hfc h8 HSr hJ
                  rcases HFc.out with ⟨h24, hsw⟩ | ⟨h24, hbn, hsw⟩ | ⟨h24, hbn, S2, D2, hsw, ⟨sg, hg2⟩, hn2, hc2, hl2, ha2⟩
                  · have h24' : (fs.length : Int) = 24 := by omega
                    have HSw := Lib.hid (HSwg.out _ _ _ hsw)
                    clear hsw HFc HSwg
                    go_wp2_with (first | (go_at_call 17; (with_reducible refine HSw.out.mono ?_); rintro e w12 ⟨rfl, hs⟩; have HS12 := Lib.hid hs; clear hs) | (go_at_call 27; (with_reducible refine (num3_any _ _).mono ?_); rintro e wx ⟨rfl, rfl⟩))
                    go_roundw
                    · exact ⟨i + 1, S, D, by omega, by omega, by push_cast; rfl, ⟨fun f hf => by have := HNm.out f hf; omega, ⟨_, _, HG.out, by have := HLim.out; omega⟩, HC.out.mono (by omega), HAr.out, HLn.out⟩, HS12.out⟩
                    · simp [intOf]; omega
                  · have h24' : ¬ (fs.length : Int) = 24 := by omega
                    have hbn' : (t : Int) < n := by omega
                    have HSw := Lib.hid (HSwg.out _ _ _ hsw)
                    clear hsw HFc HSwg
                    go_wp2_with (first | (go_at_call 17; (with_reducible refine HSw.out.mono ?_); rintro e w12 ⟨rfl, hs⟩; have HS12 := Lib.hid hs; clear hs) | (go_at_call 27; (with_reducible refine (num3_any _ _).mono ?_); rintro e wx ⟨rfl, rfl⟩))
                    go_roundw
                    · exact ⟨i + 1, S, D, by omega, by omega, by push_cast; rfl, ⟨fun f hf => by have := HNm.out f hf; omega, ⟨_, _, HG.out, by have := HLim.out; omega⟩, HC.out.mono (by omega), HAr.out, HLn.out⟩, HS12.out⟩
                    · simp [intOf]; omega
                  · have h24' : ¬ (fs.length : Int) = 24 := by omega
                    have hbn' : ¬ (t : Int) < n := by omega
                    have HSw := Lib.hid (HSwg.out _ _ _ hsw)
                    have HG2 := Lib.hid hg2; have HN2 := Lib.hid hn2; have HC2 := Lib.hid (hc2 _ HC.out); have HL2 := Lib.hid hl2; have HA2 := Lib.hid ha2
                    clear hsw HFc HSwg hg2 hn2 hc2 hl2 ha2
                    go_wp2_with (first | (go_at_call 17; (with_reducible refine HSw.out.mono ?_); rintro e w12 ⟨rfl, hs⟩; have HS12 := Lib.hid hs; clear hs) | (go_at_call 27; (with_reducible refine (num3_any _ _).mono ?_); rintro e wx ⟨rfl, rfl⟩))
                    go_roundw
                    · exact ⟨i + 1, S2, D2, by omega, by omega, by push_cast; rfl, ⟨fun f hf => by have := HN2.out f hf; have h10 := HN1.out; omega, ⟨_, _, HG2.out, by have := HLim.out; omega⟩, HC2.out.mono (by omega), HA2.out, HL2.out⟩, HS12.out⟩
                    · simp [intOf]; omega
    · by_cases h40 : i < 40
      · have hk3 : (i : Int) < 40 := by omega
        have hk2 : ¬ (i : Int) < ks.length := by omega
        go_wp2_with fail
        go_ret
        exact ⟨rfl, HD.out.2.chg⟩
      · have hk3 : ¬ (i : Int) < 40 := by omega
        by_cases hkl2 : (i : Int) < ks.length
        · go_wp2_with fail
          go_ret
          exact ⟨rfl, HD.out.2.chg⟩
        · go_wp2_with fail
          go_ret
          exact ⟨rfl, HD.out.2.chg⟩
end Go.Proofs.Ytjmapbhgjhlefaa
