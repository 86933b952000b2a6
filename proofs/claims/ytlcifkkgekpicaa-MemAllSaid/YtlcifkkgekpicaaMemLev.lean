/- The table's Level and Bytes, the document's Alike, the heights. -/
import Derived.Test.YtlcifkkgekpicaaMemBest
import Derived.Test.YtlcifkkgekpicaaRgn
import Derived.Deep.CutBlock
namespace Go.Proofs.Ytlcifkkgekpicaa
open Go.RowKit
set_option linter.unusedVariables false

/-- What a level tells. -/
def levE (i : Int) (ns : List Nd) : List Ent := if 0 ≤ i ∧ i < 8 then witE [] i.toNat ns else []
def levM (i : Int) (L : List Pr) : List Ent := if 0 ≤ i ∧ i < 8 then (L.filter fun p => decide (i < p.2)).map (·.1) else []
theorem lev_abs {ns : List Nd} (hok : NOk ns) (i : Int) : levE i ns = levM i (absL ns) := by
  unfold levE levM
  by_cases h : 0 ≤ i ∧ i < 8
  · rw [if_pos h, if_pos h]
    have hall : ∀ l : List Ent, l.takeWhile (inB []) = l := by
      intro l
      induction l with
      | nil => rfl
      | cons x l ih => rw [List.takeWhile_cons, show inB [] x = true from rfl, if_pos rfl, ih]
    unfold witE
    rw [hall]
    have hf : ns.filter (fun n => decide (i.toNat < n.v)) = ns.filter (fun n => decide (i < (absN n).2)) := by
      apply List.filter_congr
      intro n hn
      have := (hok.full n hn).1
      show decide (i.toNat < n.v) = decide (i < (n.h : Int))
      rw [this, Bool.eq_iff_iff]
      simp
      omega
    rw [hf]
    unfold absL
    rw [List.filter_map, List.map_map]
    rfl
  · rw [if_neg h, if_neg h]
theorem told_none (w : World) : ToldE w [] (.returned (.slice none 0 0)) w := ⟨[], none, 0, rfl, rfl, ((Sat.start w).row_nil _ 4).of (by rfl)⟩
set_option maxHeartbeats 1000000 in
theorem level_any (i : Int) (b hr : Nat) (ns : List Nd) (w : World) (hv : View w b hr ns) (hok : NOk ns) (hsm : Small ns) :
    Calls Try.prog 30 #[.pointer (some ⟨b, 0, none⟩), .int .i64 i] w (ToldE w (levE i ns)) := by
  have HV := Lib.hid hv
  have HO := Lib.hid hok
  have HS := Lib.hid hsm
  have q0 := hv.head
  clear hv hok hsm
  by_cases h : 0 ≤ i ∧ i < 8
  · obtain ⟨h0, h8⟩ := h
    have HL : Hid (levE i ns = witE [] i.toNat ns) := by unfold Hid levE; rw [if_pos ⟨h0, h8⟩]
    obtain ⟨j, rfl⟩ : ∃ j : Nat, i = j := ⟨i.toNat, by omega⟩
    have hj : j < 8 := by omega
    have q1 := HV.out.links j hj
    have h1 : ¬ (j : Int) < 0 := by omega
    have h2 : ¬ (8 : Int) ≤ j := by omega
    have h3 : (j : Int) < 8 := by omega
    obtain ⟨PP, hPP⟩ : ∃ PP, ptrN (nxt noT ns j) = .pointer PP := ⟨_, rfl⟩
    rw [hPP] at q1
    have HP := Lib.hid hPP
    clear hPP
    go_enter Try.func30, Try.ntmps30
    go_wp2_with (go_at_call 40; rw [← HP.out]; refine (within_any none 0 [] b hr ns [] ns j w (Rd.nil _ _) HV.out HO.out HS.out rfl hj).mono ?_; rintro x w1 ⟨es, A, c, rfl, he, hs⟩; have HE := Lib.hid he; have HS1 := Lib.hid hs; clear he hs)
    go_ret
    rw [HL.out]
    exact ⟨es, A, c, rfl, HE.out, HS1.out⟩
  · have HL : Hid (levE i ns = []) := by unfold Hid levE; rw [if_neg h]
    have h1 : i < 0 ∨ (0 ≤ i ∧ 8 ≤ i) := by omega
    rw [HL.out]
    clear h
    rcases h1 with h1 | ⟨h1, h2⟩
    · go_enter Try.func30, Try.ntmps30
      go_wp2_with fail
      go_ret
      exact told_none w
    · have h3 : ¬ i < 0 := by omega
      go_enter Try.func30, Try.ntmps30
      go_wp2_with fail
      go_ret
      exact told_none w
theorem bytes_any (b hr : Nat) (ns : List Nd) (c y : Int) (w0 w : World) (F : SP) (h : Sat w0 (SkipC b hr ns c y * F) w) : Calls Try.prog 25 #[.pointer (some ⟨b, 0, none⟩)] w fun x w' => x = .returned (.int .i64 y) ∧ w' = w := by
  have q := h.skipC2
  clear h
  go_enter Try.func25, Try.ntmps25
  go_wp2_with fail
  go_ret
  exact ⟨rfl, rfl⟩
/-- The same rows. -/
def alikeB (a b : List Ent) : Bool := decide (a.length = b.length) && (List.range a.length).all fun i => match a[i]?, b[i]? with | some x, some y => eqE x y | _, _ => true
theorem alike_yes (a b : List Ent) (hl : a.length = b.length) (h : ∀ i (h1 : i < a.length) (h2 : i < b.length), eqE a[i] b[i] = true) : alikeB a b = true := by
  unfold alikeB
  rw [decide_eq_true hl, Bool.true_and, List.all_eq_true]
  intro i hi
  have hi := List.mem_range.1 hi
  rw [List.getElem?_eq_getElem hi, List.getElem?_eq_getElem (by omega)]
  exact h i hi (by omega)
theorem alike_no (a b : List Ent) (hl : a.length = b.length) (i : Nat) (h1 : i < a.length) (h2 : i < b.length) (h : eqE a[i] b[i] = false) : alikeB a b = false := by
  cases hb : alikeB a b with
  | false => rfl
  | true =>
    unfold alikeB at hb
    rw [decide_eq_true hl, Bool.true_and, List.all_eq_true] at hb
    have := hb i (List.mem_range.2 h1)
    rw [List.getElem?_eq_getElem h1, List.getElem?_eq_getElem h2] at this
    simp only [] at this
    rw [h] at this
    cases this
theorem alike_len (a b : List Ent) (hl : ¬ a.length = b.length) : alikeB a b = false := by unfold alikeB; rw [decide_eq_false hl]; rfl
theorem alike_iff (a b : List Ent) : alikeB a b = true ↔ a = b := by
  constructor
  · intro h
    by_cases hl : a.length = b.length
    · apply List.ext_getElem hl
      intro i h1 h2
      cases he : eqE a[i] b[i] with
      | true => exact (eqE_iff _ _).1 he
      | false => rw [alike_no a b hl i h1 h2 he] at h; cases h
    · rw [alike_len a b hl] at h; cases h
  · intro h
    subst h
    exact alike_yes a a rfl fun i _ _ => (eqE_iff _ _).2 rfl
set_option maxHeartbeats 1000000 in
theorem alike_any (A B : Option Addr) (c d : Nat) (es fs : List En) (w : World) (h : RdV w A (es.flatMap enV)) (hr : EnsR w es) (k : RdV w B (fs.flatMap enV)) (kr : EnsR w fs) (hc : es.length ≤ c) (hm : c ≤ maxLen) (hd : fs.length ≤ d) (hn : d ≤ maxLen) :
    Calls Try.prog 28 #[.slice A es.length c, .slice B fs.length d] w fun e w' => e = .returned (.bool (alikeB (es.map En.ent) (fs.map En.ent))) ∧ Chg No w w' := by
  have HL := Lib.hid h
  have HR := Lib.hid hr
  have KL := Lib.hid k
  have KR := Lib.hid kr
  unfold maxLen at hm hn
  clear h hr k kr
  by_cases hlen : es.length = fs.length
  · have HY : Hid ((∀ i (h1 : i < es.length) (h2 : i < fs.length), eqE es[i].ent fs[i].ent = true) → alikeB (es.map En.ent) (fs.map En.ent) = true) := fun h => alike_yes _ _ (by simpa using hlen) fun i h1 h2 => by simpa using h i (by simpa using h1) (by simpa using h2)
    have HN : Hid (∀ i (h1 : i < es.length) (h2 : i < fs.length), eqE es[i].ent fs[i].ent = false → alikeB (es.map En.ent) (fs.map En.ent) = false) := fun i h1 h2 h => alike_no _ _ (by simpa using hlen) i (by simpa using h1) (by simpa using h2) (by simpa using h)
    have Hlen := Lib.hid hlen
    have hle1 : es.length ≤ fs.length := by omega
    have hle2 : fs.length ≤ es.length := by omega
    have hlenI : (es.length : Int) = fs.length := by omega
    have hb : ((es.length : Int) != fs.length) = false := by simp [hlen]
    clear hlen hlenI
    go_enter Try.func28, Try.ntmps28
    go_wp2_with fail
    clear hb
    go_loopw [5] (fun i wr => ∃ k : Nat, k ≤ es.length ∧ i = .int .i64 k ∧ Hid (Chg No w wr ∧ ∀ i (h : i < k) (h1 : i < es.length) (h2 : i < fs.length), eqE es[i].ent fs[i].ent = true)) (fun i _ => es.length - (intOf i).toNat)
    case atStart => exact ⟨0, by omega, rfl, Chg.refl _ _, fun i hi => by omega⟩
    case round =>
      obtain ⟨k, hk, rfl, HD⟩ := hrel
      by_cases hlt : k < es.length
      · have hlt2 : k < fs.length := by omega
        obtain ⟨b, o, rfl, hq⟩ := ents_at HL.out (by omega)
        obtain ⟨b', o', rfl, hq'⟩ := ents_at KL.out (by omega)
        obtain ⟨z0, z1, z2, z3⟩ := hq k hlt
        obtain ⟨y0, y1, y2, y3⟩ := hq' k hlt2
        have a0 := HD.out.1.cell z0 id; have a1 := HD.out.1.cell z1 id; have a2 := HD.out.1.cell z2 id; have a3 := HD.out.1.cell z3 id
        have b0 := HD.out.1.cell y0 id; have b1 := HD.out.1.cell y1 id; have b2 := HD.out.1.cell y2 id; have b3 := HD.out.1.cell y3 id
        unfold slv' at a0 a1 b0 b1
        have HI := Lib.hid HD.out.1
        have HLs := Lib.hid HD.out.2
        clear hq hq' z0 z1 z2 z3 y0 y1 y2 y3 HD
        go_wp2_with fail
        go_region_law (first
          | (go_simp; go_at_call 18; refine (eqE_any es[k] fs[k] _ ((HR.out _ (List.getElem_mem _)).new HI.out.drew) ((KR.out _ (List.getElem_mem _)).new HI.out.drew)).mono ?_; rintro e w5 ⟨rfl, k5⟩))
        all_goals
          have k6 : Hid (Chg No w w5) := HI.out.drew.tr k5
          cases hb : eqE es[k].ent fs[k].ent with
          | false =>
            have HQ : Hid (alikeB (es.map En.ent) (fs.map En.ent) = false) := HN.out k hlt hlt2 hb
            go_wp2_with fail
            go_ret
            exact ⟨by rw [HQ.out]; rfl, k6.out⟩
          | true =>
            go_wp2_with fail
            go_roundw
            · exact ⟨k + 1, by omega, by push_cast; rfl, k6.out, fun i hi h1 h2 => if e : i = k then by subst e; exact hb else HLs.out i (by omega) h1 h2⟩
            · simp [intOf]; omega
      · have HQ : Hid (alikeB (es.map En.ent) (fs.map En.ent) = true) := HY.out fun i h1 h2 => HD.out.2 i (by omega) h1 h2
        go_wp2_with fail
        go_ret
        exact ⟨by rw [HQ.out]; rfl, HD.out.1⟩
  · have HQ : Hid (alikeB (es.map En.ent) (fs.map En.ent) = false) := alike_len _ _ (by simpa using hlen)
    have hb : ((es.length : Int) != fs.length) = true := by simp; omega
    go_enter Try.func28, Try.ntmps28
    go_wp2_with fail
    go_ret
    exact ⟨by rw [HQ.out]; rfl, Chg.refl _ _⟩
/-- The i-th of a row that goes round. -/
def hOf (l : List Int) (i : Nat) : Int := if l.length = 0 then 1 else l.getD (i % l.length) 0
theorem height_any (A : Option Addr) (c : Nat) (l : List Int) (i : Nat) (w : World) (h : RdV w A (l.map fun n => .int .i64 n)) (hi : i ≤ 1000) (hc : l.length ≤ c) (hm : c ≤ maxLen) :
    Calls Try.prog 34 #[.slice A l.length c, .int .i64 (i : Int)] w fun e w' => e = .returned (.int .i64 (hOf l i)) ∧ w' = w := by
  unfold maxLen at hm
  by_cases h0 : l.length = 0
  · have HQ : Hid (hOf l i = 1) := by unfold Hid hOf; rw [if_pos h0]
    have Hh := Lib.hid h
    rw [h0, HQ.out]
    clear h h0
    go_enter Try.func34, Try.ntmps34
    go_wp2_with fail
    go_ret
    exact ⟨rfl, rfl⟩
  · have hm2 : i % l.length < l.length := Nat.mod_lt _ (by omega)
    have HQ : Hid (hOf l i = l.getD (i % l.length) 0) := by unfold Hid hOf; rw [if_neg h0]
    obtain ⟨b, o, rfl, hq⟩ := RdV.get h (j := i % l.length) (by simpa using hm2)
    have hv : (l.map fun n => Value.int .i64 n)[i % l.length]'(by simpa using hm2) = .int .i64 (l.getD (i % l.length) 0) := by
      rw [List.getElem_map, List.getD_eq_getElem?_getD, List.getElem?_eq_getElem hm2]; rfl
    rw [hv] at hq
    rw [HQ.out]
    generalize l.getD (i % l.length) 0 = y at *
    have h1 : ¬ (l.length : Int) = 0 := by omega
    have h2 : ((i : Int) % (l.length : Int)).toNat = i % l.length := by rw [← Int.natCast_emod]; rfl
    have h4 : (0 : Int) < l.length := by omega
    have h5 : (0 : Int) ≤ (i : Int) % l.length := Int.emod_nonneg _ (by omega)
    have h6 : (i : Int) % l.length < l.length := Int.emod_lt_of_pos _ h4
    go_enter Try.func34, Try.ntmps34
    go_wp2_with fail
    trace_state
    go_ret
    exact ⟨rfl, rfl⟩
end Go.Proofs.Ytlcifkkgekpicaa
