/- The document's disk: Read, Write. -/
import Derived.Test.YtiimlbkccoofmaaRef4
namespace Go.Proofs.Ytiimlbkccoofmaa
open Go.RowKit
set_option linter.unusedVariables false

theorem find_last (ps : List (Nat × Slc)) (a : Int) (m : Nat) (hm : m < ps.length) (h : ((ps[m].1 : Nat) : Int) = a) (hno : ∀ p ∈ ps.drop (m + 1), ((p.1 : Nat) : Int) ≠ a) : ps.reverse.find? (fun x => ((x.1 : Nat) : Int) == a) = some ps[m] := by
  have e : ps = ps.take m ++ ps[m] :: ps.drop (m + 1) := by rw [← List.drop_eq_getElem_cons hm, List.take_append_drop]
  have e2 : ps.reverse = (ps.drop (m + 1)).reverse ++ (ps[m] :: (ps.take m).reverse) := by
    conv => lhs; rw [e]
    simp
  rw [e2, List.find?_append, List.find?_eq_none.2 (fun x hx => by simpa using hno x (by simpa using hx))]
  simp [h]
theorem find_none (ps : List (Nat × Slc)) (a : Int) (hno : ∀ p ∈ ps, ((p.1 : Nat) : Int) ≠ a) : ps.reverse.find? (fun x => ((x.1 : Nat) : Int) == a) = none :=
  List.find?_eq_none.2 fun x hx => by simpa using hno x (by simpa using hx)
theorem ask_bounds {D : Dk} {i : Int} {n : Nat} (h0 : D.ask i = 0) (hl : D.cells.length = n) : 0 ≤ i ∧ i < n ∧ D.off = false := by
  unfold Dk.ask at h0
  rw [hl] at h0
  split at h0
  · omega
  · split at h0
    · rename_i h1 h2; exact ⟨h2.1, h2.2, by simpa using h1⟩
    · omega
def RReadD (r : Nat) (D : Dk) (l : List UInt8) (c : Int) (w0 : World) (F : SP) (e : Ending) (w' : World) : Prop :=
  ∃ A k, e = .returned (.tuple #[.slice A l.length k, .int .i64 c]) ∧ Sat w0 (Row 5 1 (.slice A l.length k) l.length (l.map bv) * (RDisk r D * F)) w'
set_option maxHeartbeats 1000000 in
theorem rRead_any (r : Nat) (D : Dk) (i : Int) (w0 w : World) (F : SP) (h : Sat w0 (RDisk r D * F) w) (hw2 : D.pend.length ≤ 1000000000) :
    Calls Try.prog 27 #[.pointer (some ⟨r, 0, none⟩), .int .i64 i] w (RReadD r D (D.read i).1 (D.read i).2 w0 F) := by
  have HH := Lib.hid h
  obtain ⟨vs, vt, vp, cs, ps, hr, hs⟩ := h.rdisk
  obtain ⟨A0, c0, B1, b1, A1, c1, rfl, rfl, rfl, hle0, hleB, hle, hm0, hmB, hmx⟩ := hs.rvals
  have hpl : D.pend.length = ps.length := by rw [hr.pend]; simp
  rw [hpl] at hw2
  have hc5 := hs.rhead5
  have hc0 := hs.rhead0
  have hc1 := hs.rhead1
  have hc2 := hs.rhead2
  have hln := hr.len
  have HE : Hid (∀ j : Int, D.ask j = if D.off then 21 else if 0 ≤ j ∧ j < cs.length then 0 else 22) := fun j => by unfold Dk.ask; rw [hln]
  have hpd : ∀ k : Nat, D.last k = (ps.reverse.find? fun x => ((x.1 : Nat) : Int) == k).map fun x => x.2.2.2 := fun k => by
    unfold Dk.last
    rw [hr.pend, lastOf_map]
    cases (ps.reverse.find? fun x => ((x.1 : Nat) : Int) == k) <;> rfl
  by_cases ho : D.off = true
  · have HP : Hid (D.read i = ([], 21)) := off_read D i ho
    rw [ho] at hc5
    clear ho hr hs h hpd hln
    go_enter Try.func27, Try.ntmps27
    go_wp2_with fail
    go_ret2
    rw [HP.out]
    exact ⟨none, 0, rfl, HH.out.row_nil _ 1⟩
  · have ho' : D.off = false := by simpa using ho
    rw [ho'] at hc5
    have HO := Lib.hid ho
    clear ho ho'
    by_cases hi : 0 ≤ i ∧ i < cs.length
    · obtain ⟨hi1, hi2⟩ := hi
      obtain ⟨a, rfl⟩ : ∃ a : Nat, i = a := ⟨i.toNat, by omega⟩
      have ha : a < cs.length := by omega
      have hask : D.ask a = 0 := by rw [HE.out, if_neg HO.out, if_pos ⟨hi1, hi2⟩]
      have HRd : Hid (D.read a = match D.last a with | some b => (b, 0) | none => if cs[a].2 then ([], 24) else if cs[a].1.2.2 = [] then (List.replicate 512 0, 0) else (cs[a].1.2.2, 0)) := by
        unfold Hid Dk.read
        rw [if_pos hask, hr.cells]
        have e : (cs.map rcell)[(a : Int).toNat]? = some (rcell cs[a]) := by rw [Int.toNat_natCast, List.getElem?_map, List.getElem?_eq_getElem ha]; rfl
        rw [e]
        unfold rcell
        cases cs[a].2 <;> rfl
      have HPd := Lib.hid hpd
      have HS := Lib.hid hs
      have HR := Lib.hid hr
      have hin : ¬ (a : Int) < 0 := by omega
      have him : ¬ (cs.length : Int) ≤ a := by omega
      unfold maxLen at hmx
      clear hr hs h hpd hln hask
      go_enter Try.func27, Try.ntmps27
      go_wp2_with fail
      go_loopw [6] (fun i wr => ∃ m : Nat, m ≤ ps.length ∧ i = .int .i64 ((m : Int) - 1) ∧ Hid (wr = w ∧ ∀ p ∈ ps.drop m, ((p.1 : Nat) : Int) ≠ a)) (fun i _ => (intOf i + 1).toNat)
      case atStart => exact ⟨ps.length, Nat.le_refl _, rfl, rfl, by simp⟩
      case round =>
        obtain ⟨m, hm, rfl, HD⟩ := hrel
        have hw := HD.out.1
        subst hw
        rcases m with _ | q
        · have e0 : (((0 : Nat) : Int) - 1) = -1 := rfl
          rw [e0]
          clear e0
          have HN : Hid (D.last a = none) := by unfold Hid; rw [HPd.out, find_none ps a (fun p hp => HD.out.2 p (by simpa using hp))]; rfl
          obtain ⟨gT, cT, hvT, _, _, qT⟩ := HS.out.rTorn ha true
          injection hvT with hvT _ _
          subst hvT
          cases ht : cs[a].2 with
          | true =>
            rw [ht] at qT
            have HP : Hid (D.read a = ([], 24)) := by unfold Hid; rw [HRd.out, HN.out]; dsimp only; rw [ht]; rfl
            clear ht
            go_wp2_with fail
            go_ret2
            rw [HP.out]
            exact ⟨none, 0, rfl, HH.out.row_nil _ 1⟩
          | false =>
            rw [ht] at qT
            have HP : Hid (D.read a = (toldL cs[a].1.2.2, 0)) := by
              unfold Hid
              rw [HRd.out, HN.out]; dsimp only; rw [ht]
              show (if cs[a].1.2.2 = [] then _ else _) = (if cs[a].1.2.2 = [] then _ else _, 0)
              by_cases hx : cs[a].1.2.2 = []
              · rw [if_pos hx, if_pos hx]
              · rw [if_neg hx, if_neg hx]
            obtain ⟨gS, hgS, hS⟩ := (HS.out.of rdisk_d).up2.row_at (by omega)
            subst hgS
            have qS := hS a (by simpa using ha)
            simp only [List.getElem_map, slv] at qS
            have HC := Lib.hid (told_any cs[a].1.1 cs[a].1.2.1 cs[a].1.2.2 w0 wr _ HH.out ((HS.out.of rdisk_d).up5.rol (List.mem_append_left _ (List.mem_map_of_mem (f := Prod.fst) (List.getElem_mem ha)))) (HR.out.fitc _ (List.getElem_mem ha)))
            have HL : Hid ((toldL cs[a].1.2.2).length = 512) := by
              unfold Hid toldL
              by_cases hx : cs[a].1.2.2 = []
              · rw [if_pos hx, List.length_replicate]
              · rw [if_neg hx]; exact (HR.out.fitc _ (List.getElem_mem ha)).resolve_left hx
            clear ht hS
            generalize cs[a] = x at *
            go_wp2_with fail
            refine HC.out.mono ?_
            rintro e w2 ⟨A2, k2, rfl, hs⟩
            have HS2 := Lib.hid hs
            clear hs
            go_wp2_with fail
            go_ret2
            rw [HP.out]
            refine ⟨A2, k2, by rw [HL.out]; rfl, ?_⟩
            show Sat w0 (Row _ 1 (.slice A2 (toldL _).length k2) (toldL _).length _ * _) w2
            rw [HL.out]
            exact HS2.out
        · have e0 : (((q + 1 : Nat) : Int) - 1) = q := by omega
          rw [e0]
          clear e0
          obtain ⟨g, rfl, q0, q1⟩ := HS.out.rPendAt (show q < ps.length by omega)
          have hq0 : (0 : Int) ≤ q := by omega
          have hql : (q : Int) < ps.length := by omega
          have hqm : (q : Int) ≤ 1000000000 := by omega
          have HM := Lib.hid (List.getElem_mem (show q < ps.length by omega))
          by_cases he : ((ps[q].1 : Nat) : Int) = a
          · have he' : ((((ps[q].1 : Nat) : Int)) == (a : Int)) = true := by rw [beq_iff_eq]; exact he
            have HP : Hid (D.read a = (ps[q].2.2.2, 0)) := by unfold Hid; rw [HRd.out, HPd.out, find_last ps a q (by omega) he HD.out.2]; rfl
            have HC := Lib.hid (told_any ps[q].2.1 ps[q].2.2.1 ps[q].2.2.2 w0 wr _ HH.out ((HS.out.of rdisk_d).up5.rol (List.mem_append_right _ (List.mem_map_of_mem (f := Prod.snd) HM.out))) (.inr (HR.out.fitp _ HM.out).1))
            have HL : Hid (ps[q].2.2.2.length = 512) := (HR.out.fitp _ HM.out).1
            have HL0 : Hid (ps[q].2.2.2 ≠ []) := fun e => by have := HL.out; rw [e] at this; simp at this
            clear he
            generalize ps[q] = p at *
            obtain ⟨pa, As, cz, ls⟩ := p
            simp only [slv] at q0 q1 he'
            have HC' : Hid (Calls Try.prog 42 #[.slice As ls.length cz] wr (ToldD ls w0 (RDisk r D * F))) := HC.out
            go_wp2_with fail
            refine HC'.out.mono ?_
            rintro e w2 ⟨A2, k2, rfl, hs⟩
            have HS2 := Lib.hid hs
            clear hs
            go_wp2_with fail
            go_ret2
            rw [HP.out]
            have h5 : ls.length = 512 := HL.out
            have h6 := HS2.out
            unfold toldL at h6
            rw [if_neg HL0.out] at h6
            refine ⟨A2, k2, by show _ = Ending.returned (.tuple #[.slice A2 ls.length k2, _]); rw [h5]; rfl, ?_⟩
            show Sat w0 (Row _ 1 (.slice A2 ls.length k2) ls.length (ls.map bv) * _) w2
            rw [h5]
            exact h6
          · have he' : ((((ps[q].1 : Nat) : Int)) == (a : Int)) = false := by rw [beq_eq_false_iff_ne]; exact he
            have HNo : Hid (∀ p ∈ ps.drop q, ((p.1 : Nat) : Int) ≠ a) := fun p hp => by
              rw [List.drop_eq_getElem_cons (show q < ps.length by omega)] at hp
              rcases List.mem_cons.1 hp with e | hp
              · rw [e]; exact he
              · exact HD.out.2 p hp
            clear he
            generalize ps[q] = p at *
            obtain ⟨pa, As, cz, ls⟩ := p
            simp only [slv] at q0 q1 he'
            go_wp2_with fail
            go_roundw
            case rel => exact ⟨q, by omega, by first | rfl | trivial, by first | rfl | trivial, HNo.out⟩
            case measure => first | (simp [intOf]; done) | (simp [intOf]; omega)
    · have HP : Hid (D.read i = ([], 22)) := by
        unfold Hid Dk.read
        have : D.ask i = 22 := by rw [HE.out, if_neg HO.out, if_neg hi]
        rw [this, if_neg (by decide)]
      by_cases hi1 : i < 0
      · clear hr hs h hpd hln hi
        go_enter Try.func27, Try.ntmps27
        go_wp2_with fail
        go_ret2
        rw [HP.out]
        exact ⟨none, 0, rfl, HH.out.row_nil _ 1⟩
      · have hi2 : (cs.length : Int) ≤ i := by omega
        clear hr hs h hpd hln hi
        go_enter Try.func27, Try.ntmps27
        go_wp2_with fail
        go_ret2
        rw [HP.out]
        exact ⟨none, 0, rfl, HH.out.row_nil _ 1⟩
end Go.Proofs.Ytiimlbkccoofmaa
