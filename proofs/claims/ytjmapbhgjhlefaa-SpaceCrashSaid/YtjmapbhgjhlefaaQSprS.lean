/- The statements' Lists with both answers; begins. -/
import Derived.Test.YtjmapbhgjhlefaaQSpr7
namespace Go.Proofs.Ytjmapbhgjhlefaa
open Go.RowKit
set_option linter.unusedVariables false
set_option maxRecDepth 100000

theorem lists_dec (b : Bool) (A B : Option Addr) (c d : Nat) (ks ls : Rows_) (w : World) (h : RdL w A ks) (h' : RdL w B ls) (hb : b = true ↔ txt ks = txt ls) (hks : ks.length ≤ 1000000) (hls : ls.length ≤ 1000000) :
    Calls Try.prog 53 #[.slice A ks.length c, .slice B ls.length d] w fun e w' => e = .returned (.bool b) ∧ Chg No w w' := by
  by_cases hlen : ks.length = ls.length
  · have HN := Lib.hid hlen
    rw [← hlen]
    have HR := Lib.hid h
    have HR' := Lib.hid h'
    have HB := Lib.hid hb
    clear h h' hlen hb hls
    have hne : (((ks.length : Nat) : Int) != ((ks.length : Nat) : Int)) = false := by simp
    go_enter Try.func53, Try.ntmps53
    go_wp2
    go_loopw [5] (fun i wr => ∃ k : Nat, k ≤ ks.length ∧ i = .int .i64 k ∧ Hid ((∃ n, wr = w.drewN n) ∧ (txt ks).take k = (txt ls).take k)) (fun i _ => ks.length - (intOf i).toNat)
    case atStart => exact ⟨0, by omega, rfl, ⟨0, rfl⟩, by rw [List.take_zero, List.take_zero]⟩
    case round =>
      obtain ⟨k, hk, rfl, HD⟩ := hrel
      obtain ⟨⟨n, hn⟩, ht⟩ := HD.out
      have HT := Lib.hid ht
      subst hn
      clear HD ht
      by_cases hlt : k < ks.length
      · have hlt' : k < ls.length := by have := HN.out; omega
        obtain ⟨⟨b1, o, rfl, hc⟩, hx⟩ := HR.out.get hlt
        obtain ⟨⟨b', o', rfl, hc'⟩, hx'⟩ := HR'.out.get hlt'
        have e1 : (txt ks)[k]? = some ks[k].2.2 := by simp [txt, hlt]
        have e2 : (txt ls)[k]? = some ls[k].2.2 := by simp [txt, hlt']
        have HTn : Hid (ks[k].2.2 = ls[k].2.2 → (txt ks).take (k + 1) = (txt ls).take (k + 1)) := fun he => by
          rw [List.take_add_one, List.take_add_one, HT.out, e1, e2, he]
        have HBn : Hid (ks[k].2.2 ≠ ls[k].2.2 → b = false) := fun he => by
          cases b with
          | false => rfl
          | true =>
            have h9 := HB.out.1 rfl
            rw [h9, e2] at e1
            injection e1 with e1
            exact absurd e1.symm he
        have HX := Lib.hid hx
        have HX' := Lib.hid hx'
        clear hx hx' e1 e2
        generalize ks[k] = x at *
        generalize ls[k] = y at *
        have hk6 : k < 1000000 := by omega
        have hli : (k : Int) < ks.length := by omega
        by_cases hxy : x.2.2 = y.2.2
        · have HQ : Hid (∀ W, Rd W x.1 x.2.2 → Rd W y.1 y.2.2 → Calls Try.prog 31 #[.slice x.1 x.2.2.length x.2.1, .slice y.1 y.2.2.length y.2.1] W fun e w' => e = .returned (.bool true) ∧ w' = W) := fun W h1 h2 => (same_any _ _ _ _ _ _ W h1 h2).mono fun e w' ⟨he, hw⟩ => ⟨by rw [he, hxy, beq_self_eq_true], hw.symm⟩
          have HT2 := Lib.hid (HTn.out hxy)
          clear hxy HTn HBn
          go_wp2_with fail
          go_quiet ((go_at_call 31; exact quiet_add_same' (HQ.out _ (HX.out.drewN _) (HX'.out.drewN _))))
          go_wp2_with fail
          go_roundw
          case rel => exact ⟨k + 1, by omega, by go_num, ⟨_, rfl⟩, HT2.out⟩
          case measure => simp [intOf]; omega
        · have HQ : Hid (∀ W, Rd W x.1 x.2.2 → Rd W y.1 y.2.2 → Calls Try.prog 31 #[.slice x.1 x.2.2.length x.2.1, .slice y.1 y.2.2.length y.2.1] W fun e w' => e = .returned (.bool false) ∧ w' = W) := fun W h1 h2 => (same_any _ _ _ _ _ _ W h1 h2).mono fun e w' ⟨he, hw⟩ => ⟨by rw [he]; congr 1; simpa using hxy, hw.symm⟩
          have HB2 := Lib.hid (HBn.out hxy)
          clear hxy HTn HBn
          go_wp2_with fail
          go_quiet ((go_at_call 31; exact quiet_add_same' (HQ.out _ (HX.out.drewN _) (HX'.out.drewN _))))
          go_wp2_with fail
          go_ret
          rw [HB2.out]
          exact ⟨rfl, ((Chg.refl No w).drewN n).drewN _⟩
      · have HB2 : Hid (b = true) := HB.out.2 (by
          have h9 := HT.out
          rw [List.take_of_length_le (by unfold txt; rw [List.length_map]; omega), List.take_of_length_le (by unfold txt; rw [List.length_map]; have := HN.out; omega)] at h9
          exact h9)
        go_wp2_with fail
        go_ret
        rw [HB2.out]
        exact ⟨rfl, (Chg.refl No w).drewN n⟩
  · have HB2 : Hid (b = false) := by
      unfold Hid
      cases b with
      | false => rfl
      | true =>
        have h9 := congrArg List.length (hb.1 rfl)
        unfold txt at h9
        rw [List.length_map, List.length_map] at h9
        exact absurd h9 hlen
    have hne : (((ks.length : Nat) : Int) != ((ls.length : Nat) : Int)) = true := by simp; omega
    clear h h' hb hlen
    go_enter Try.func53, Try.ntmps53
    go_wp2
    go_ret
    rw [HB2.out]
    exact ⟨rfl, Chg.refl _ _⟩
/-- What is told of a file is the beginning of what was appended, at least the safe ones. -/
def Beg (told : List (List UInt8)) (f : Rf) : Prop := f.safe ≤ told.length ∧ told = (txt f.fr).take told.length
theorem Beg.len {told : List (List UInt8)} {f : Rf} (h : Beg told f) : told.length ≤ f.fr.length := by
  have h1 := congrArg List.length h.2
  rw [List.length_take] at h1
  have h2 : (txt f.fr).length = f.fr.length := by unfold txt; rw [List.length_map]
  omega
set_option maxHeartbeats 1000000 in
theorem begins_any (b : Bool) (A B : Option Addr) (c cf : Nat) (ks : Rows_) (f : Rf) (w : World) (hv : f.fv = .slice B f.fr.length cf) (h : RdL w A ks) (h' : RdL w B f.fr) (hb : b = true ↔ Beg (txt ks) f) (hks : ks.length ≤ 1000000) (hls : f.fr.length ≤ 1000000) (hcf : f.fr.length ≤ cf) :
    Calls Try.prog 94 #[.slice A ks.length c, .agg #[.int .i64 (f.num : Int), .int .i64 (f.first : Int), .int .i64 (f.blocks : Int), .slice B f.fr.length cf, .int .i64 (f.safe : Int)]] w fun e w' => e = .returned (.bool b) ∧ Chg No w w' := by
  have htl : (txt ks).length = ks.length := by unfold txt; rw [List.length_map]
  have HR := Lib.hid h; have HR' := Lib.hid h'
  by_cases h1 : ks.length < f.safe
  · have HB : Hid (b = false) := by
      unfold Hid
      cases b with
      | false => rfl
      | true => have := (hb.1 rfl).1; omega
    have h1' : (ks.length : Int) < (f.safe : Int) := by omega
    clear hb h h' hv htl
    go_enter Try.func94, Try.ntmps94
    go_wp2_with fail
    go_ret
    rw [HB.out]
    exact ⟨rfl, (Chg.refl No w).alloc _⟩
  by_cases h2 : f.fr.length < ks.length
  · have HB : Hid (b = false) := by
      unfold Hid
      cases b with
      | false => rfl
      | true => have := (hb.1 rfl).len; omega
    have h1' : ¬ (ks.length : Int) < (f.safe : Int) := by omega
    have h2' : (f.fr.length : Int) < (ks.length : Int) := by omega
    clear hb h h' hv htl
    go_enter Try.func94, Try.ntmps94
    go_wp2_with fail
    go_ret
    rw [HB.out]
    exact ⟨rfl, (Chg.refl No w).alloc _⟩
  · have h1' : ¬ (ks.length : Int) < (f.safe : Int) := by omega
    have h2' : ¬ (f.fr.length : Int) < (ks.length : Int) := by omega
    have hkc : (ks.length : Int) ≤ cf := by omega
    have HL : Hid (∀ W, Chg No w W → Calls Try.prog 53 #[.slice A ks.length c, .slice B ks.length cf] W fun e w' => e = .returned (.bool b) ∧ Chg No W w') := fun W hW => by
      have h9 := lists_dec b A B c cf ks (f.fr.take ks.length) W (h.new hW) (RdL.take (h'.new hW) ks.length) (by
        rw [hb]
        have h8 : txt (f.fr.take ks.length) = (txt f.fr).take ks.length := by unfold txt; rw [List.map_take]
        rw [h8]
        constructor
        · rintro ⟨_, h7⟩; rw [htl] at h7; exact h7
        · intro h7; exact ⟨by omega, by rw [htl]; exact h7⟩) hks (by rw [List.length_take]; omega)
      rw [List.length_take, Nat.min_eq_left (by omega)] at h9
      exact h9
    clear hb h h' hv htl HR HR'
    go_enter Try.func94, Try.ntmps94
    go_wp2_with (go_at_call 53; (with_reducible refine (HL.out _ ((Chg.refl No w).alloc _)).mono ?_); rintro e w2 ⟨rfl, hk⟩; have HK := Lib.hid hk; clear hk)
    go_ret
    exact ⟨rfl, ((Chg.refl No w).alloc _).tr HK.out⟩
end Go.Proofs.Ytjmapbhgjhlefaa
