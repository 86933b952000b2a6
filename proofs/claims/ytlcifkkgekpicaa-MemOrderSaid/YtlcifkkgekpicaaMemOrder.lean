/- MemOrder: the walk. -/
import Derived.Test.YtlcifkkgekpicaaMemWakes
import Derived.Test.YtlcifkkgekpicaaMemOpen
namespace Go.Proofs.Ytlcifkkgekpicaa
open Go.RowKit
set_option linter.unusedVariables false

def sameB (a b : Ent) : Bool := (a.key == b.key) && (a.seq == b.seq)
theorem sameB_iff (a b : Ent) : sameB a b = true ↔ same1 a b := by unfold sameB same1; simp
theorem less_same (a b : Ent) : (lessE a b || lessE b a) = !sameB a b := by
  rcases lte_tri a b with q | q | q
  · have h1 : sameB a b = false := by cases h : sameB a b with | false => rfl | true => exact absurd q (same1_not ((sameB_iff a b).1 h))
    have q : lessE a b = true := q
    rw [q, h1]; rfl
  · have h1 : sameB a b = false := by cases h : sameB a b with | false => rfl | true => exact absurd q (same1_not ((sameB_iff a b).1 h).symm)
    have q : lessE b a = true := q
    rw [q, h1]; cases lessE a b <;> rfl
  · have h1 : lessE a b = false := by cases h : lessE a b with | false => rfl | true => exact absurd h (same1_not q)
    have h2 : lessE b a = false := by cases h : lessE b a with | false => rfl | true => exact absurd h (same1_not q.symm)
    rw [h1, h2, (sameB_iff a b).2 q]; rfl
theorem less_both (a b : Ent) (h : lessE a b = true) : lessE b a = false := by cases k : lessE b a with | false => rfl | true => exact absurd k (lte_asymm h)
theorem less_self (a : Ent) : lessE a a = false := by cases k : lessE a a with | false => rfl | true => exact absurd k (lte_irr a)
theorem sorted_two (a b : Ent) : sortedB [a, b] = lessE a b := by simp [sortedB]
section
variable {w W : World} {S : SP}
theorem lessS (x y : En) (h : Sat w S W) (hx : EnR w x) (hy : EnR w y) : Calls Try.prog 8 #[.agg #[.slice x.key.1 x.key.2.2.length x.key.2.1, .slice x.value.1 x.value.2.2.length x.value.2.1, .int .i64 x.seq, .bool x.dead], .agg #[.slice y.key.1 y.key.2.2.length y.key.2.1, .slice y.value.1 y.value.2.2.length y.value.2.1, .int .i64 y.seq, .bool y.dead]] W
    fun e w' => e = .returned (.bool (lessE x.ent y.ent)) ∧ Sat w S w' := by
  refine (less_any x y W (hx.new h.chg) (hy.new h.chg)).mono ?_
  rintro e w' ⟨rfl, k⟩
  exact ⟨rfl, h.new k⟩
theorem rlessS (x y : En) (h : Sat w S W) (hx : EnR w x) (hy : EnR w y) : Calls Try.prog 9 #[.agg #[.slice x.key.1 x.key.2.2.length x.key.2.1, .slice x.value.1 x.value.2.2.length x.value.2.1, .int .i64 x.seq, .bool x.dead], .agg #[.slice y.key.1 y.key.2.2.length y.key.2.1, .slice y.value.1 y.value.2.2.length y.value.2.1, .int .i64 y.seq, .bool y.dead]] W
    fun e w' => e = .returned (.bool (lessE x.ent y.ent)) ∧ Sat w S w' := by
  refine (rless_any x y W (hx.new h.chg) (hy.new h.chg)).mono ?_
  rintro e w' ⟨rfl, k⟩
  exact ⟨rfl, h.new k⟩
end
section
variable {w W : World} {S : SP}
theorem lessS' (x y : En) (B : Bool) (hB : lessE x.ent y.ent = B) (h : Sat w S W) (hx : EnR w x) (hy : EnR w y) : Calls Try.prog 8 #[.agg #[.slice x.key.1 x.key.2.2.length x.key.2.1, .slice x.value.1 x.value.2.2.length x.value.2.1, .int .i64 x.seq, .bool x.dead], .agg #[.slice y.key.1 y.key.2.2.length y.key.2.1, .slice y.value.1 y.value.2.2.length y.value.2.1, .int .i64 y.seq, .bool y.dead]] W
    fun e w' => e = .returned (.bool B) ∧ Sat w S w' := by rw [← hB]; exact lessS x y h hx hy
theorem rlessS' (x y : En) (B : Bool) (hB : lessE x.ent y.ent = B) (h : Sat w S W) (hx : EnR w x) (hy : EnR w y) : Calls Try.prog 9 #[.agg #[.slice x.key.1 x.key.2.2.length x.key.2.1, .slice x.value.1 x.value.2.2.length x.value.2.1, .int .i64 x.seq, .bool x.dead], .agg #[.slice y.key.1 y.key.2.2.length y.key.2.1, .slice y.value.1 y.value.2.2.length y.value.2.1, .int .i64 y.seq, .bool y.dead]] W
    fun e w' => e = .returned (.bool B) ∧ Sat w S w' := by rw [← hB]; exact rlessS x y h hx hy
theorem sortedS (A : Option Addr) (c : Nat) (es : List En) (h : Sat w S W) (hl : RdV w A (es.flatMap enV)) (hr : EnsR w es) (hc : es.length ≤ c) (hm : c ≤ maxLen) :
    Calls Try.prog 10 #[.slice A es.length c] W fun e w' => e = .returned (.bool (sortedB (es.map En.ent))) ∧ Sat w S w' := by
  refine (sorted_any A c es W (hl.new h.chg) (hr.new h.chg) hc hm).mono ?_
  rintro e w' ⟨rfl, k⟩
  exact ⟨rfl, h.new k⟩
theorem rsortedS (A : Option Addr) (c : Nat) (es : List En) (h : Sat w S W) (hl : RdV w A (es.flatMap enV)) (hr : EnsR w es) (hc : es.length ≤ c) (hm : c ≤ maxLen) :
    Calls Try.prog 11 #[.slice A es.length c] W fun e w' => e = .returned (.bool (sortedB (es.map En.ent))) ∧ Sat w S w' := by
  refine (rsorted_any A c es W (hl.new h.chg) (hr.new h.chg) hc hm).mono ?_
  rintro e w' ⟨rfl, k⟩
  exact ⟨rfl, h.new k⟩
theorem mwakesS (h : Sat w S W) : Calls Try.prog 12 #[] W fun e w' => e = .returned (.bool true) ∧ Sat w S w' := by
  refine (mwakes_any W).mono ?_
  rintro e w' ⟨rfl, k⟩
  exact ⟨rfl, h.new k⟩
end
/-- The three boxes. -/
def Box3 (E1 E2 E3 : Nat) (a b c : En) : SP := Pt E3 24 (enC c) * (Pt E2 24 (enC b) * (Pt E1 24 (enC a) * Emp))
theorem box3 {w W : World} {E1 E2 E3 : Nat} {a b c : En} (h : Sat w (Box3 E1 E2 E3 a b c) W) :
    (W.cell? ⟨E1, 0, none⟩ = some (.slice a.key.1 a.key.2.2.length a.key.2.1) ∧ W.cell? ⟨E1, 1, none⟩ = some (.slice a.value.1 a.value.2.2.length a.value.2.1) ∧ W.cell? ⟨E1, 2, none⟩ = some (.int .i64 a.seq) ∧ W.cell? ⟨E1, 3, none⟩ = some (.bool a.dead)) ∧
    (W.cell? ⟨E2, 0, none⟩ = some (.slice b.key.1 b.key.2.2.length b.key.2.1) ∧ W.cell? ⟨E2, 1, none⟩ = some (.slice b.value.1 b.value.2.2.length b.value.2.1) ∧ W.cell? ⟨E2, 2, none⟩ = some (.int .i64 b.seq) ∧ W.cell? ⟨E2, 3, none⟩ = some (.bool b.dead)) ∧
    (W.cell? ⟨E3, 0, none⟩ = some (.slice c.key.1 c.key.2.2.length c.key.2.1) ∧ W.cell? ⟨E3, 1, none⟩ = some (.slice c.value.1 c.value.2.2.length c.value.2.1) ∧ W.cell? ⟨E3, 2, none⟩ = some (.int .i64 c.seq) ∧ W.cell? ⟨E3, 3, none⟩ = some (.bool c.dead)) :=
  ⟨⟨h.up3.cell 0, h.up3.cell 1, h.up3.cell 2, h.up3.cell 3⟩, ⟨h.up2.cell 0, h.up2.cell 1, h.up2.cell 2, h.up2.cell 3⟩, ⟨h.cell 0, h.cell 1, h.cell 2, h.cell 3⟩⟩
theorem ents_take (es : List En) (n : Nat) : (es.take n).flatMap enV = (es.flatMap enV).take (n * 4) := by
  induction es generalizing n with
  | nil => simp
  | cons e es ih =>
    cases n with
    | zero => simp
    | succ n =>
      rw [List.take_succ_cons, List.flatMap_cons, List.flatMap_cons, ih, List.take_append]
      have : (enV e).length = 4 := rfl
      rw [this, List.take_of_length_le (l := enV e) (by rw [this]; omega), show (n + 1) * 4 - 4 = n * 4 by omega]
set_option maxRecDepth 100000 in
set_option maxHeartbeats 4000000 in
theorem memOrder_walk (a b c : En) (A : Option Addr) (cap : Nat) (es : List En) (w : World) (ha : EnIn w a) (hb : EnIn w b) (hc : EnIn w c) (hl : EnsIn w A cap es) :
    Calls Try.prog 3 #[enA a, enA b, enA c, .slice A es.length cap] w (Asked true w) := by
  obtain ⟨hn, hm, hl, _, hr⟩ := hl
  have HA := Lib.hid ha.r
  have HB := Lib.hid hb.r
  have HC := Lib.hid hc.r
  have HL := Lib.hid hl
  have HR := Lib.hid (EnIn.ens hr)
  clear ha hb hc hl hr
  have hm2 := hm
  unfold maxLen at hm2
  have s1 := (((Sat.start w).allocAt (b := w.heap.size) 24 (enC a) rfl).allocAt (b := w.heap.size + 1) 24 (enC b) (by simp)).allocAt (b := w.heap.size + 1 + 1) 24 (enC c) (by simp)
  unfold enA
  go_enter Try.func3, Try.ntmps3
  go_upto_if 14 with fail
  revert s1
  unfold enC
  generalize ((w.alloc _).alloc _).alloc _ = W
  intro s1
  generalize w.heap.size + 1 + 1 = E3 at *
  generalize w.heap.size + 1 = E2 at *
  generalize w.heap.size = E1 at *
  have HS : Hid (Sat w (Box3 E1 E2 E3 a b c) W) := s1
  clear s1
  go_cut [3] (fun s wx => ∃ ls : List En, s = .slice A ls.length cap ∧ Hid (wx = W ∧ RdV w A (ls.flatMap enV) ∧ EnsR w ls ∧ ls.length ≤ cap))
  case first =>
    by_cases h60 : 60 < es.length
    · have hcap : (60 : Int) ≤ cap := by omega
      go_wp2_with fail
      go_meet
      have hl60 : (es.take 60).length = 60 := by rw [List.length_take]; omega
      exact ⟨es.take 60, by rw [hl60], rfl, by rw [ents_take]; exact HL.out.take _, fun e he => HR.out e (List.mem_of_mem_take he), by omega⟩
    · go_wp2_with fail
      go_meet
      exact ⟨es, rfl, rfl, HL.out, HR.out, hn⟩
  case rest =>
    obtain ⟨ls, hs, hcut⟩ := hcut
    subst hs
    have hw := hcut.out.1
    subst hw
    have HLs := hcut
    clear hcut
    obtain ⟨⟨a0, a1, a2, a3⟩, ⟨b0, b1, b2, b3⟩, ⟨c0, c1, c2, c3⟩⟩ := box3 HS.out
    go_upto_region 3 with fail
    go_cut [9, 10] (fun x y wx => x = .bool (lessE a.ent b.ent) ∧ y = .bool (lessE b.ent a.ent) ∧ Hid (Sat w (Box3 E1 E2 E3 a b c) wx))
    case first =>
      go_region_law (first
        | (go_simp; go_at_call 8; (with_reducible refine (lessS a b HS.out.drew HA.out HB.out).mono ?_); rintro x w5 ⟨rfl, hs5⟩; have HS5 := Lib.hid hs5; obtain ⟨⟨d0, d1, d2, d3⟩, ⟨e0, e1, e2, e3⟩, _⟩ := box3 hs5; clear hs5)
        | (go_simp; go_at_call 8; (with_reducible refine (lessS b a HS5.out HB.out HA.out).mono ?_); rintro x w6 ⟨rfl, hs6⟩; have HS6 := Lib.hid hs6; obtain ⟨⟨d0, d1, d2, d3⟩, ⟨e0, e1, e2, e3⟩, _⟩ := box3 hs6; clear hs6))
      all_goals
        go_wp2_with fail
        go_meet
        exact ⟨rfl, rfl, HS6.out⟩
    case rest =>
      obtain ⟨hx, hy, hs3⟩ := hcut
      subst hx
      subst hy
      have HS3 := hs3
      clear hs3 a0 a1 a2 a3 b0 b1 b2 b3 c0 c1 c2 c3
      obtain ⟨X, hX⟩ : ∃ X, lessE a.ent b.ent = X := ⟨_, rfl⟩
      obtain ⟨Y, hY⟩ : ∃ Y, lessE b.ent a.ent = Y := ⟨_, rfl⟩
      have HXY : Hid (X = true → Y = false) := fun e => hY.symm.trans (less_both _ _ (hX.trans e))
      have HSm : Hid (((X || Y) != sameB a.ent b.ent) = true) := by
        unfold Hid; rw [← hX, ← hY, less_same]; cases sameB a.ent b.ent <;> rfl
      rw [hX, hY]
      have HX := Lib.hid hX
      clear hX hY
      go_upto_region 4 with fail
      go_cut [45] (fun x wx => x = .bool false ∧ Hid (Sat w (Box3 E1 E2 E3 a b c) wx))
      case first =>
        obtain ⟨⟨a0, a1, a2, a3⟩, ⟨b0, b1, b2, b3⟩, ⟨c0, c1, c2, c3⟩⟩ := box3 HS3.out
        have hXY := HXY.out
        cases X with
        | true =>
          have hY0 := hXY rfl
          subst hY0
          clear hXY
          go_wp2_with (first
            | (go_at_call 9; (with_reducible refine (rlessS' a b true HX.out HS3.out HA.out HB.out).mono ?_); rintro x w5 ⟨rfl, hs5⟩; have HS5 := Lib.hid hs5; obtain ⟨⟨d0, d1, d2, d3⟩, _, _⟩ := box3 hs5; clear hs5)
            | (go_at_call 8; (with_reducible refine (lessS' a a false (less_self _) HS5.out HA.out HA.out).mono ?_); rintro x w6 ⟨rfl, hs6⟩; have HS6 := Lib.hid hs6; clear hs6)
            | (go_at_call 10; (with_reducible refine (sortedS A cap ls HS6.out HLs.out.2.1 HLs.out.2.2.1 HLs.out.2.2.2 hm).mono ?_); rintro x w7 ⟨rfl, hs7⟩; have HS7 := Lib.hid hs7; clear hs7)
            | (go_at_call 11; (with_reducible refine (rsortedS A cap ls HS7.out HLs.out.2.1 HLs.out.2.2.1 HLs.out.2.2.2 hm).mono ?_); rintro x w8 ⟨rfl, hs8⟩; have HS8 := Lib.hid hs8; clear hs8))
          all_goals
            go_meet
            exact ⟨by simp, HS8.out⟩
        | false =>
          clear hXY
          go_wp2_with (first
            | (go_at_call 9; (with_reducible refine (rlessS' a b false HX.out HS3.out HA.out HB.out).mono ?_); rintro x w5 ⟨rfl, hs5⟩; have HS5 := Lib.hid hs5; obtain ⟨⟨d0, d1, d2, d3⟩, _, _⟩ := box3 hs5; clear hs5)
            | (go_at_call 8; (with_reducible refine (lessS' a a false (less_self _) HS5.out HA.out HA.out).mono ?_); rintro x w6 ⟨rfl, hs6⟩; have HS6 := Lib.hid hs6; clear hs6)
            | (go_at_call 10; (with_reducible refine (sortedS A cap ls HS6.out HLs.out.2.1 HLs.out.2.2.1 HLs.out.2.2.2 hm).mono ?_); rintro x w7 ⟨rfl, hs7⟩; have HS7 := Lib.hid hs7; clear hs7)
            | (go_at_call 11; (with_reducible refine (rsortedS A cap ls HS7.out HLs.out.2.1 HLs.out.2.2.1 HLs.out.2.2.2 hm).mono ?_); rintro x w8 ⟨rfl, hs8⟩; have HS8 := Lib.hid hs8; clear hs8))
          all_goals
            go_meet
            exact ⟨by simp, HS8.out⟩
      case rest =>
        obtain ⟨hx, hs4⟩ := hcut
        subst hx
        have HS4 := hs4
        clear hs4 HS3
        go_upto_region 6 with fail
        go_cut [57] (fun x wx => x = .bool false ∧ Hid (Sat w (Box3 E1 E2 E3 a b c) wx))
        case first =>
          obtain ⟨⟨a0, a1, a2, a3⟩, ⟨b0, b1, b2, b3⟩, ⟨c0, c1, c2, c3⟩⟩ := box3 HS4.out
          cases X with
          | false =>
            go_wp2_with fail
            go_meet
            exact ⟨rfl, HS4.out⟩
          | true =>
            obtain ⟨Z, hZ⟩ : ∃ Z, lessE b.ent c.ent = Z := ⟨_, rfl⟩
            have HZ := Lib.hid hZ
            clear hZ
            cases Z with
            | false =>
              go_wp2_with (first
                | (go_at_call 8; (with_reducible refine (lessS' b c false HZ.out HS4.out HB.out HC.out).mono ?_); rintro x w5 ⟨rfl, hs5⟩; have HS5 := Lib.hid hs5; obtain ⟨⟨d0, d1, d2, d3⟩, _, ⟨e0, e1, e2, e3⟩⟩ := box3 hs5; clear hs5))
              all_goals
                go_meet
                exact ⟨rfl, HS5.out⟩
            | true =>
              have HAC : Hid (lessE a.ent c.ent = true) := lte_trans HX.out HZ.out
              go_wp2_with (first
                | (go_at_call 8; (with_reducible refine (lessS' b c true HZ.out HS4.out HB.out HC.out).mono ?_); rintro x w5 ⟨rfl, hs5⟩; have HS5 := Lib.hid hs5; obtain ⟨⟨d0, d1, d2, d3⟩, _, ⟨e0, e1, e2, e3⟩⟩ := box3 hs5; clear hs5)
                | (go_at_call 8; (with_reducible refine (lessS' a c true HAC.out HS5.out HA.out HC.out).mono ?_); rintro x w6 ⟨rfl, hs6⟩; have HS6 := Lib.hid hs6; clear hs6))
              all_goals
                go_meet
                exact ⟨rfl, HS6.out⟩
        case rest =>
          obtain ⟨hx, hs5⟩ := hcut
          subst hx
          have HS5 := hs5
          clear hs5 HS4
          go_upto_region 8 with fail
          go_cut [11] (fun x wx => x = .bool (sameB a.ent b.ent) ∧ Hid (Sat w (Box3 E1 E2 E3 a b c) wx))
          case first =>
            obtain ⟨⟨a0, a1, a2, a3⟩, ⟨b0, b1, b2, b3⟩, ⟨c0, c1, c2, c3⟩⟩ := box3 HS5.out
            have HD : Hid (sameB a.ent b.ent = ((a.key.2.2 == b.key.2.2) && (a.seq == b.seq))) := rfl
            have s1 := (HA.out.1.new HS5.out.chg).str (P := Try.prog) 22 9 5 Try.underlying22 Try.underlying5 Try.underlying9 a.key.2.1
            have s2 := (HB.out.1.new HS5.out.chg).str (P := Try.prog) 22 9 5 Try.underlying22 Try.underlying5 Try.underlying9 b.key.2.1
            by_cases hn : a.key.2.2 = b.key.2.2
            · rw [← hn] at s2
              obtain ⟨SA, hSA⟩ : ∃ SA, SA = ByteArray.mk a.key.2.2.toArray := ⟨_, rfl⟩
              rw [← hSA] at s1 s2
              clear hSA
              have s2 : (convert 22 9 (.slice b.key.1 b.key.2.2.length b.key.2.1)).run Try.prog wc = .ok (.string SA) wc := by rw [← hn]; exact s2
              have HN := Lib.hid hn
              clear hn
              go_wp2_with fail
              go_meet
              refine ⟨?_, HS5.out⟩
              rw [HD.out, HN.out]
              simp
            · go_wp2_with fail
              go_meet
              refine ⟨?_, HS5.out⟩
              rw [HD.out, show (a.key.2.2 == b.key.2.2) = false by simpa using hn]
              rfl
          case rest =>
            obtain ⟨hx, hs6⟩ := hcut
            subst hx
            have HS6 := hs6
            clear hs6 HS5
            obtain ⟨M, hM⟩ : ∃ M, sameB a.ent b.ent = M := ⟨_, rfl⟩
            have hSm := HSm.out
            rw [hM] at hSm
            rw [hM]
            clear hM HXY HSm
            obtain ⟨⟨a0, a1, a2, a3⟩, ⟨b0, b1, b2, b3⟩, ⟨c0, c1, c2, c3⟩⟩ := box3 HS6.out
            have HTwo : Hid (∀ g, Chg No wc g → RdV g (some ⟨wc.heap.size, 0, none⟩) ([a, b].flatMap enV) → Calls Try.prog 10 #[.slice (some ⟨wc.heap.size, 0, none⟩) 2 2] g fun e w' => e = .returned (.bool X) ∧ Chg No wc w') := by
              intro g kg hg
              have h1 := sorted_any (some ⟨wc.heap.size, 0, none⟩) 2 [a, b] g hg (by intro e he; simp at he; rcases he with rfl | rfl; exact (HA.out.new HS6.out.chg).new kg; exact (HB.out.new HS6.out.chg).new kg) (by simp) (by unfold maxLen; omega)
              rw [show ([a, b] : List En).length = 2 from rfl] at h1
              refine h1.mono ?_
              rintro e w' ⟨rfl, k⟩
              refine ⟨?_, kg.tr k⟩
              rw [List.map_cons, List.map_cons, List.map_nil, sorted_two, HX.out]
            clear HX
            cases X <;> cases Y <;> cases M <;> simp at hSm
            all_goals
              go_wp2_with (first
                | (go_at_call 10; refine (HTwo.out _ ((Chg.refl No wc).alloc _) (RdV.lit wc _ _ (0, 0))).mono ?_; rintro e w7 ⟨rfl, k7⟩; have HK7 := Lib.hid k7; clear k7)
                | (go_at_call 12; refine (mwakes_any _).mono ?_; rintro e w8 ⟨rfl, k8⟩; have HK8 := Lib.hid k8; clear k8))
              go_ret
              exact ⟨rfl, HS6.out.chg.tr (HK7.out.tr HK8.out)⟩
end Go.Proofs.Ytlcifkkgekpicaa
