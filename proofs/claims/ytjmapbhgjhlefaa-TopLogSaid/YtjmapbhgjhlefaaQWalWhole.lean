/- wal.Whole: the batches that frames tell. -/
import Derived.Test.YtjmapbhgjhlefaaQWalWalk
namespace Go.Proofs.Ytjmapbhgjhlefaa
open Go.RowKit
set_option linter.unusedVariables false
set_option maxRecDepth 100000

theorem bits_and_ne (c m : UInt8) : (bits .and .u8 (c.toNat : Int) (m.toNat : Int) != 0) = decide (c &&& m ≠ 0) := by
  rw [u8_and_nat _ _ (by have := c.toNat_lt; omega) (by have := m.toNat_lt; omega), ← UInt8.toNat_and]
  generalize c &&& m = y
  rw [Bool.eq_iff_iff, bne_iff_ne, decide_eq_true_iff]
  constructor
  · rintro h rfl; exact h rfl
  · intro h h0; exact h (UInt8.toNat.inj (by simpa using h0))

def Wholed (fs : List (List UInt8)) (w : World) (e : Ending) (w' : World) : Prop := ∃ v rs, e = .returned v ∧ txt rs = whole fs ∧ OwnLL w.heap.size w' v rs ∧ Chg No w w'
/-- What holds at a round's head: what is told so far, the batch under way. -/
structure WholeAt (ks : Rows_) (w wr : World) (k : Nat) (v batch begun : Value) (rs : Rows_) (cur : Option (List UInt8)) : Prop where
  out : OwnLL w.heap.size wr v rs
  chg : Chg No w wr
  beg : begun = .bool cur.isSome
  bat : ∀ b, cur = some b → b.length ≤ (txt (ks.take k)).flatten.length ∧ ∃ A c, batch = .slice A b.length c ∧ Rd wr A b
  say : whole (txt ks) = txt rs ++ wholeFrom cur (txt (ks.drop k))
  len : rs.length ≤ k
set_option maxRecDepth 10000 in
set_option maxHeartbeats 4000000 in
theorem whole_any (A : Option Addr) (c : Nat) (ks : Rows_) (w : World) (h : RdL w A ks) (hcap : ∀ k ∈ ks, k.2.2.length ≤ k.2.1 ∧ k.2.1 ≤ maxLen) (htot : (txt ks).flatten.length ≤ 140737488355328) (hks : ks.length ≤ 1000000) :
    Calls Try.prog 68 #[.slice A ks.length c] w (Wholed (txt ks) w) := by
  obtain ⟨i0, hi, hz0, hz1, hz2⟩ := info_parts info_sl
  have HR := Lib.hid h
  have HT := Lib.hid htot
  have HCap := Lib.hid hcap
  clear h htot hcap
  go_enter Try.func68, Try.ntmps68
  go_wp2
  go_loopw [3, 4, 5, 7, 10] (fun v batch begun _ i wr => ∃ k : Nat, k ≤ ks.length ∧ i = .int .i64 k ∧ ∃ rs cur, WholeAt ks w wr k v batch begun rs cur) (fun _ _ _ _ i _ => ks.length - (intOf i).toNat)
  case atStart => exact ⟨0, by omega, rfl, [], none, ⟨OwnLL.nil _ _, Chg.refl _ _, rfl, (fun b h => by cases h), by simp [txt, whole], by simp⟩⟩
  case round =>
    obtain ⟨k, hk, rfl, rs, cur, HD0⟩ := hrel
    have HD := Lib.hid HD0
    obtain rfl := HD0.beg
    clear HD0
    by_cases hlt : k < ks.length
    · obtain ⟨⟨b, o, rfl, hc⟩, hx⟩ := (HR.out.new HD.out.chg).get hlt
      have HX := Lib.hid hx
      have HF := Lib.hid (flat_take ks k hlt)
      have HC := Lib.hid (HCap.out ks[k] (List.getElem_mem hlt))
      have HDr : Hid (txt (ks.drop k) = ks[k].2.2 :: txt (ks.drop (k + 1))) := by rw [List.drop_eq_getElem_cons hlt]; rfl
      have hle1 := flat_le ks (k + 1)
      rw [HF.out, List.length_append] at hle1
      have L1 : Hid ((txt (ks.take k)).flatten.length + ks[k].2.2.length ≤ 140737488355328) := by have := HT.out; unfold Hid; omega
      clear hx hle1
      generalize ks[k] = x at *
      obtain ⟨Ax, cx, fx⟩ := x
      rcases fx with _ | ⟨c0, r0⟩
      · go_wp2_with fail
        go_ret
        refine ⟨_, rs, rfl, ?_, HD.out.out, HD.out.chg⟩
        have h1 := HD.out.say
        rw [HDr.out] at h1
        rw [h1]
        cases cur <;> simp [wholeFrom]
      · obtain ⟨b2, o2, e2, hc2⟩ := HX.out.get (j := 0) (by simp)
        have e2' : Ax = some ⟨b2, o2, none⟩ := e2
        subst e2'
        simp only [Nat.add_zero, List.getElem_cons_zero] at hc2
        clear e2
        by_cases h3 : 3 < c0
        · have h3' : (3 : Int) < (c0.toNat : Int) := by have := UInt8.lt_iff_toNat_lt.1 h3; simp at this; omega
          go_wp2_with fail
          go_ret
          refine ⟨_, rs, rfl, ?_, HD.out.out, HD.out.chg⟩
          have h1 := HD.out.say
          rw [HDr.out] at h1
          rw [h1]
          cases cur <;> simp [wholeFrom, h3]
        · have h3' : ¬ (3 : Int) < (c0.toNat : Int) := by intro h; exact h3 (UInt8.lt_iff_toNat_lt.2 (by simp; omega))
          have hb1 := bits_and_ne c0 1
          have hb2 := bits_and_ne c0 2
          have HB1 : Hid ((bits .and .u8 (c0.toNat : Int) 1 != 0) = decide (c0 &&& 1 ≠ 0)) := hb1
          have HB2 : Hid ((bits .and .u8 (c0.toNat : Int) 2 != 0) = decide (c0 &&& 2 ≠ 0)) := hb2
          have HW : Hid (∀ q fs, wholeFrom q ((c0 :: r0) :: fs) = match (if c0 &&& 1 ≠ 0 then some [] else q) with
              | none => wholeFrom none fs
              | some b => if c0 &&& 2 ≠ 0 then (b ++ r0) :: wholeFrom none fs else wholeFrom (some (b ++ r0)) fs) := fun q fs => by rw [wholeFrom, if_neg h3]; rfl
          clear hb1 hb2 h3
          obtain ⟨cur1, hcur1⟩ : ∃ q, q = (if c0 &&& 1 ≠ 0 then some [] else cur) := ⟨_, rfl⟩
          have HQ := Lib.hid hcur1
          clear hcur1
          have hcx : (c0 :: r0).length ≤ cx := HC.out.1
          have hcx2 : cx ≤ 9223372036854775807 := HC.out.2
          simp only [List.length_cons] at hcx
          go_upto_if 27 with fail
          go_cut [4, 5] (fun batch begun wx => begun = .bool cur1.isSome ∧ Hid (Chg No wr wx ∧ ∀ b, cur1 = some b → b.length ≤ (txt (ks.take k)).flatten.length ∧ ∃ A c, batch = .slice A b.length c ∧ Rd wx A b))
          case first =>
            by_cases p1 : c0 &&& 1 ≠ 0
            · have hb := HB1.out
              rw [decide_eq_true p1] at hb
              have HQ1 : Hid (cur1 = some []) := by rw [HQ.out, if_pos p1]; rfl
              clear p1
              go_wp2_with fail
              go_meet
              refine ⟨by rw [HQ1.out]; rfl, (Chg.refl No wr).alloc _, fun b hb' => ?_⟩
              rw [HQ1.out] at hb'
              injection hb' with hb'
              subst hb'
              exact ⟨by simp, _, _, rfl, Rd.nil _ _⟩
            · have hb := HB1.out
              rw [decide_eq_false p1] at hb
              have HQ1 : Hid (cur1 = cur) := by rw [HQ.out, if_neg p1]; rfl
              clear p1
              go_wp2_with fail
              go_meet
              exact ⟨by rw [HQ1.out], Chg.refl No wr, fun b hb' => HD.out.bat b (by rw [← HQ1.out]; exact hb')⟩
          case rest =>
            obtain ⟨rfl, HM⟩ := hcut
            have HSay : Hid (whole (txt ks) = txt rs ++ wholeFrom cur ((c0 :: r0) :: txt (ks.drop (k + 1)))) := by have := HD.out.say; rw [HDr.out] at this; exact this
            have hcw := HM.out.1.cell hc id
            have hcw2 := HM.out.1.cell hc2 id
            clear hc hc2
            rcases cur1 with _ | b0
            · go_wp2_with fail
              go_roundw
              case rel =>
                refine ⟨k + 1, by omega, by go_num, rs, none, ⟨HD.out.out.new HM.out.1, HD.out.chg.tr HM.out.1, rfl, (fun b h => by cases h), ?_, by have := HD.out.len; omega⟩⟩
                rw [HSay.out, HW.out, ← HQ.out]
              case measure => simp [intOf]; omega
            · obtain ⟨hbl, A0, cc0, hbat, hrd0⟩ := HM.out.2 b0 rfl
              subst hbat
              have HJ : Hid (∀ (A2 : Option Addr) (C2 : Nat), Rd wc A2 r0 →
                  Calls Try.prog 80 #[.slice (some ⟨wc.heap.size, 0, none⟩) 2 2] (wc.alloc (.cells #[.slice A0 b0.length cc0, .slice A2 r0.length C2] 39))
                    (Joined (b0 ++ r0) (wc.alloc (.cells #[.slice A0 b0.length cc0, .slice A2 r0.length C2] 39)))) := by
                intro A2 C2 hrd
                have ht : (txt [(A0, cc0, b0), (A2, C2, r0)]).flatten = b0 ++ r0 := by simp [txt]
                rw [← ht]
                refine join_any _ 2 [(A0, cc0, b0), (A2, C2, r0)] _ ⟨?_, ?_⟩ ?_ (by simp)
                · have := RdV.lit wc #[.slice A0 b0.length cc0, .slice A2 r0.length C2] 39 (0, 0)
                  simpa [slOf] using this
                · intro x hx
                  simp at hx
                  rcases hx with rfl | rfl
                  · exact hrd0.alloc _
                  · exact hrd.alloc _
                · have := L1.out
                  simp [txt] at hbl this ⊢
                  omega
              have HR1 : Hid (Rd wc (some ⟨b2, o2 + 1, none⟩) r0) := by
                intro hne
                refine ⟨b2, o2 + 1, rfl, fun j hj => ?_⟩
                obtain ⟨b3, o3, e3, hcell⟩ := (HX.out.new HM.out.1).get (j := j + 1) (by simp at hj ⊢; omega)
                injection e3 with e3
                injection e3 with e3 e4
                subst e3
                subst e4
                rw [Nat.add_assoc, Nat.add_comm 1 j, hcell]
                simp [bv]
              have HR2 : Hid (cx = 1 → Rd wc (some ⟨b2, o2, none⟩) r0) := fun h1 => by
                have : r0 = [] := List.eq_nil_of_length_eq_zero (by omega)
                rw [this]
                exact Rd.nil _ _
              have HL1 : Hid (b0.length + r0.length ≤ (txt (ks.take (k + 1))).flatten.length) := by
                rw [HF.out, List.length_append]
                simp only [List.length_cons]
                unfold Hid
                omega
              clear hrd0 hbl
              go_wp2_with fail
              all_goals
                refine (HJ.out _ _ (by first | exact HR2.out (by omega) | exact HR1.out)).mono ?_
                rintro e w2 ⟨v2, rfl, h2, k2⟩
                obtain ⟨A2, c2, rfl, _⟩ := own_sl h2
                have kk := ((Chg.refl No wc).alloc _).tr k2
                have H2 := Lib.hid (own_base (base' := wc.heap.size + 1) h2 (by simp))
                have K2 := Lib.hid ((HD.out.chg.tr HM.out.1).tr kk)
                have O2 := Lib.hid ((HD.out.out.new HM.out.1).new kk)
                have D2 : Hid (∀ y ∈ rs, ∀ g, (slOf y).ownBlock = some g → g < wc.heap.size + 1) := fun y hy g hg => by have := (((HD.out.out.new HM.out.1).each.own y hy).lt g hg).2; omega
                have L2 : Hid (rs.length + 1 ≤ 1000001 ∧ w.heap.size ≤ wc.heap.size + 1 ∧ w.heap.size ≤ w2.heap.size + 1) := ⟨by have := HD.out.len; omega, by have := (HD.out.chg.tr HM.out.1).size; omega, by have := K2.out.size; omega⟩
                have hcw3 := kk.cell hcw2 id
                clear h2 k2 kk
                by_cases p2 : c0 &&& 2 ≠ 0
                · have hb := HB2.out
                  rw [decide_eq_true p2] at hb
                  have HP := Lib.hid p2
                  clear p2
                  have H3 := Lib.hid (own_chg H2.out ((Chg.refl No w2).alloc (.cells #[.slice A2 (b0 ++ r0).length c2] 39)) (fun _ _ => id))
                  have O3 := Lib.hid (O2.out.new ((Chg.refl No w2).alloc (.cells #[.slice A2 (b0 ++ r0).length c2] 39)))
                  have K3 := Lib.hid (K2.out.alloc (.cells #[.slice A2 (b0 ++ r0).length c2] 39))
                  have HLen : Hid ((b0 ++ r0).length = (b0 ++ r0).length) := rfl
                  generalize hq : b0 ++ r0 = q at *
                  have HQq := Lib.hid hq
                  clear hq
                  go_wp2_with (at_builtin; refine wpList_app rfl (.tmp 41) (.tmp 43) 38 rfl w.heap.size 39 i0 _ 1 24 Try.underlying38 hi hz0 hz1 hz2 rfl (by decide) u3 rs.length (rs.map slOf) rfl O3.out.row (some ⟨w2.heap.size, 0, none⟩) 1 1 [slOf (A2, c2, q)] rfl (RdV.lit w2 #[.slice A2 q.length c2] 39 (0, 0)) rfl (slOf_one [(A2, c2, q)]) (by have := L2.out.1; unfold maxLen; omega) (by have := L2.out.1; omega) (by have := L2.out.2.2; simpa using this) ?_; intro v3 w3 hap; have HA := Lib.hid hap; clear hap)
                  go_roundw
                  case rel =>
                    refine ⟨k + 1, by omega, by go_num, rs ++ [(A2, c2, q)], none, ⟨O3.out.appd H3.out L2.out.2.1 D2.out HA.out, HA.out.old K3.out O3.out.row (Nat.le_refl _), rfl, (fun b h => by cases h), ?_, by have := HD.out.len; simp; omega⟩⟩
                    rw [HSay.out, HW.out, ← HQ.out]
                    simp only
                    rw [if_pos HP.out, HQq.out, txt_append, List.append_assoc]
                    rfl
                  case measure => simp [intOf]; omega
                · have hb := HB2.out
                  rw [decide_eq_false p2] at hb
                  have HP := Lib.hid p2
                  clear p2
                  go_wp2_with fail
                  go_roundw
                  case rel =>
                    refine ⟨k + 1, by omega, by go_num, rs, some (b0 ++ r0), ⟨O2.out, K2.out, rfl, (fun b h => ?_), ?_, by have := HD.out.len; omega⟩⟩
                    · injection h with h
                      subst h
                      exact ⟨by rw [List.length_append]; exact HL1.out, A2, c2, by rw [List.length_append], RdV.of_own H2.out⟩
                    · rw [HSay.out, HW.out, ← HQ.out]
                      simp only
                      rw [if_neg HP.out]
                  case measure => simp [intOf]; omega
    · have ht : ks.drop k = [] := List.drop_eq_nil_of_le (by omega)
      go_wp2_with fail
      go_ret
      refine ⟨_, rs, rfl, ?_, HD.out.out, HD.out.chg⟩
      have h1 := HD.out.say
      rw [ht] at h1
      rw [h1]
      cases cur <;> simp [wholeFrom, txt]
end Go.Proofs.Ytjmapbhgjhlefaa
