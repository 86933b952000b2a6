/- tidingslaw06.BloomOrder: a filter's bits do not hang on the order of keys, nor on how often each comes. -/
import Derived.Test.YtghgmecaebheoaaBloomWakes
namespace Go.Proofs.Ytghgmecaebheoaa
open Go.RowKit
set_option linter.unusedVariables false

theorem cell_later2 {w : World} {p : Addr} {v : Value} {o : Obj} (h : w.cell? p = some v) : (w.alloc o).drew.cell? p = some v := ((Chg.refl No w).alloc o).cell h id
theorem twice_drop (ks : Rows_) (m : Nat) (hm : m < ks.length) : twice (txt (ks.drop m)).reverse = twice (txt (ks.drop (m + 1))).reverse ++ txt [ks[m], ks[m]] := by
  rw [List.drop_eq_getElem_cons hm]
  generalize ks.drop (m + 1) = l
  generalize ks[m] = x
  show twice (x.2.2 :: txt l).reverse = twice (txt l).reverse ++ [x.2.2, x.2.2]
  rw [List.reverse_cons, twice, List.flatMap_append]
  rfl

theorem order_walk (A : Option Addr) (c : Nat) (ks0 : Rows_) (w : World) (hk : RdL w A ks0) (hc0 : ks0.length ≤ c) (hl : ∀ k ∈ ks0, k.2.2.length ≤ 140737488355328) (hks : ks0.length ≤ 140737488355328) :
    Calls Try.prog 4 #[.slice A ks0.length c] w (Asked true w) := by
  have HK := Lib.hid hk
  have HL := Lib.hid hl
  clear hk hl
  have e160 : nbytes 20 8 = 20 := by decide
  have HN : Hid (∀ W, Calls Try.prog 12 #[.int .i64 20, .int .i64 8] W (Fresh 20 W)) := fun W => by have := new_yes 20 8 W (by omega); rwa [e160] at this
  clear e160
  go_enter Try.func4, Try.ntmps4
  go_wp2_with fail
  refine (HN.out w).mono ?_
  rintro e w1 ⟨g, h, rfl, h1, hg1, hh1, k1⟩
  have F1 := Lib.hid h1
  have K1 := Lib.hid k1
  clear h1 k1
  go_wp2_with fail
  refine (HN.out w1).mono ?_
  rintro e w2 ⟨g', h', rfl, h2, hg2, hh2, k2⟩
  have F2 := Lib.hid h2
  have K2 := Lib.hid k2
  clear h2 k2
  go_wp2_with (go_at_call 10; refine (num_any _ _).mono ?_; rintro e w3 ⟨rfl, rfl⟩)
  refine (wakes_any w2).mono ?_
  rintro e w3 ⟨rfl, k3⟩
  have K3 := Lib.hid k3
  clear k3
  go_upto_if 38 with fail
  go_cut [0] (fun s wx => ∃ ks : Rows_, s = .slice A ks.length c ∧ Hid (w3 = wx ∧ RdL w A ks ∧ ks.length ≤ 40 ∧ ∀ k ∈ ks, k.2.2.length ≤ 140737488355328))
  case first =>
    by_cases h40 : 40 < ks0.length
    · have hcap : (40 : Int) ≤ c := by omega
      go_wp2_with fail
      go_meet
      have hl40 : (ks0.take 40).length = 40 := by rw [List.length_take]; omega
      exact ⟨ks0.take 40, by rw [hl40], rfl, HK.out.take 40, by omega, fun k hk => HL.out k (List.mem_of_mem_take hk)⟩
    · go_wp2_with fail
      go_meet
      exact ⟨ks0, rfl, rfl, HK.out, by omega, HL.out⟩
  case rest =>
    obtain ⟨ks, rfl, HC⟩ := hcut
    obtain rfl := HC.out.1
    have hlen := HC.out.2.2.1
    have D1 : Hid (h' ≠ h ∧ w.heap.size ≤ h' ∧ g' ≠ h ∧ h' ≠ g) := ⟨by have := F1.out.lt; omega, by have := K1.out.size; omega, by have := F1.out.lt; omega, by have := F1.out.lt; omega⟩
    have KW := Lib.hid ((K1.out.tr K2.out).tr K3.out)
    go_wp2_with fail
    refine (add_any g h 20 20 c _ A ks w3 (F1.out.new (K2.out.tr K3.out)) (by omega) (HC.out.2.1.stay.old KW.out (fun i hi => by cases hi; exact hh1)) HC.out.2.2.2 (by omega)).mono ?_
    rintro e w4 ⟨rfl, f4, k4⟩
    have F4 := Lib.hid f4
    have K4 := Lib.hid k4
    have G2 := Lib.hid ((F2.out.new K3.out).chg k4 D1.out.2.2.1 D1.out.1)
    have KW4 := Lib.hid (KW.out.own k4 (fun i hi => by cases hi; exact hh1))
    clear f4 k4
    go_wp2_with fail
    go_loopw [7] (fun i wr => ∃ j : Nat, j ≤ ks.length ∧ i = .int .i64 ((j : Int) - 1) ∧ Hid (Filt wr g' h' 20 20 (addAll (List.replicate 20 0) (twice (txt (ks.drop j)).reverse)) ∧ Chg (One h') w4 wr)) (fun i _ => (intOf i + 1).toNat)
    case atStart => exact ⟨ks.length, Nat.le_refl _, rfl, by rw [List.drop_length]; exact G2.out, Chg.refl _ _⟩
    case round =>
      obtain ⟨j, hj, rfl, HR⟩ := hrel
      rcases j with _ | m
      · go_wp2_with fail
        refine (bytes_any g h 20 20 _ _ (F4.out.chg HR.out.2 (Ne.symm D1.out.2.2.2) (Ne.symm D1.out.1)) (by omega)).mono ?_
        intro e w5 h5
        obtain ⟨v5, c5, rfl, R5, k5⟩ := told_rd h5
        have H5 := Lib.hid R5
        have K5 := Lib.hid k5
        clear h5 R5 k5
        go_wp2_with fail
        refine (bytes_any g' h' 20 20 _ _ (HR.out.1.new K5.out) (by omega)).mono ?_
        intro e w6 h6
        obtain ⟨v6, c6, rfl, R6, k6⟩ := told_rd h6
        have H6 := Lib.hid R6
        have K6 := Lib.hid k6
        clear h6 R6 k6
        go_wp2_with fail
        refine (same_any _ _ _ _ _ _ _ (H5.out.new K6.out) H6.out).mono ?_
        rintro e w7 ⟨rfl, rfl⟩
        have he : (addAll (List.replicate 20 0) (txt ks) == addAll (List.replicate 20 0) (twice (txt (ks.drop 0)).reverse)) = true := by
          rw [beq_iff_eq, addAll_twice, List.drop_zero]
          exact addAll_perm (List.reverse_perm _).symm _
        rw [he]
        clear he
        go_wp2
        go_ret
        exact ⟨rfl, ((KW4.out.own HR.out.2 (fun i hi => by cases hi; exact D1.out.2.1)).tr K5.out).tr K6.out⟩
      · have em : ((m + 1 : Nat) : Int) - 1 = (m : Int) := by omega
        rw [em]
        clear em
        have hm : m < ks.length := by omega
        have hr := ((HC.out.2.1).stay.old KW4.out (S := One h') (fun i hi => by cases hi; exact D1.out.2.1)) wr HR.out.2
        have hold := (HC.out.2.1).1.lt (by intro h0; have := congrArg List.length h0; simp at this; subst this; simp at hm)
        obtain ⟨⟨b, o, rfl, hc⟩, hrd⟩ := hr.get hm
        have hbh : ¬ One h' b := by
          obtain ⟨b1, o1, e1, hlt1⟩ := hold
          injection e1 with e1
          injection e1 with e1
          have := D1.out.2.1
          unfold One
          omega
        have HB := Lib.hid hbh
        clear hold hbh
        have HX := Lib.hid (HC.out.2.2.2 ks[m] (List.getElem_mem hm))
        have HS : Hid (∀ W, Chg No wr W → At W wr.heap.size 34 #[.slice ks[m].1 ks[m].2.2.length ks[m].2.1, .slice ks[m].1 ks[m].2.2.length ks[m].2.1] → Calls Try.prog 14 #[.pointer (some ⟨g', 0, none⟩), .slice (some ⟨wr.heap.size, 0, none⟩) 2 2] W
            (Added g' h' 20 20 (addAll (List.replicate 20 0) (twice (txt (ks.drop m)).reverse)) W)) := by
          intro W kW hW
          have hlt := (HR.out.1).lt.2
          have hq : addAll (List.replicate 20 0) (twice (txt (ks.drop m)).reverse) = addAll (addAll (List.replicate 20 0) (twice (txt (ks.drop (m + 1))).reverse)) (txt [ks[m], ks[m]]) := by
            rw [← addAll_append, twice_drop ks m hm]
          rw [hq]
          refine add_any g' h' 20 20 2 _ _ [ks[m], ks[m]] W (HR.out.1.new kW) (by omega) ?_ ?_ (by simp)
          · intro W' k'
            refine ⟨RdV.of_at (hW.chg k' (fun e => by unfold One at e; omega)) ?_, fun x hx => ?_⟩
            · intro i hi
              simp at hi
              match i, hi with
              | 0, _ => simp [slOf]
              | 1, _ => simp [slOf]
            · have ex : x = ks[m] := by simp at hx; exact hx
              subst ex
              exact ((HC.out.2.1).stay.old KW4.out (S := One h') (fun i hi => by cases hi; exact D1.out.2.1) W' (((HR.out.2).new kW).tr k')).2 _ (List.getElem_mem hm)
          · intro x hx
            have ex : x = ks[m] := by simp at hx; exact hx
            subst ex
            exact HX.out
        clear hrd hr
        have hm40 : m < 40 := by omega
        have hlt40 : (m : Int) < ks.length := by omega
        generalize ks[m] = x at *
        go_wp2_with fail
        go_region_held3 (fun w' => w'.cell? ⟨b, o + m, none⟩ = some (.slice x.1 x.2.2.length x.2.1)) (first | exact q7 | go_keep) (first | (go_at_call 14; refine (HS.out _ (by exact ((Chg.refl No wr).alloc _).drew) (by exact (At.new wr _ _).drew)).mono ?_; rintro e w' ⟨rfl, f7, k7⟩; have q7 := k7.cell (p := ⟨b, o + m, none⟩) (by exact cell_later2 hc) HB.out))
        have F7 := Lib.hid f7
        have K7 := Lib.hid k7
        clear f7 k7 q7 hc
        go_wp2
        go_roundw
        case rel => exact ⟨m, by omega, rfl, F7.out, (HR.out.2.new (((Chg.refl No wr).alloc _).drew)).tr K7.out⟩
        case measure => simp [intOf]

theorem order_walk_ (A : Option Addr) (c : Nat) (ks : Rows_) (w : World) (h : ks.length ≤ c ∧ c ≤ maxLen ∧ RdL w A ks ∧ ks.length ≤ 5864062014634 ∧ (∀ k ∈ ks, k.2.2.length ≤ 140737488351232 ∧ k.2.2.length ≤ k.2.1 ∧ k.2.1 ≤ maxLen)) :
    Calls Try.prog 4 #[.slice A ks.length c] w (Asked true w) :=
  order_walk A c ks w h.2.2.1 h.1 (fun k hk => by have := (h.2.2.2.2 k hk).1; omega) (by have := h.2.2.2.1; omega)
end Go.Proofs.Ytghgmecaebheoaa
