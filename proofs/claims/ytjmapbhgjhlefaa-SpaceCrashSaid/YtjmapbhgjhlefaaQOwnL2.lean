/- The statements' Twins and Lists. -/
import Derived.Test.YtjmapbhgjhlefaaQ06
namespace Go.Proofs.Ytjmapbhgjhlefaa
open Go.RowKit
set_option linter.unusedVariables false
set_option maxRecDepth 100000

/-- Twins. -/
def Twinsd (ks : List (List UInt8)) (w : World) (e : Ending) (w' : World) : Prop := ∃ v rs, e = .returned v ∧ txt rs = ks ∧ OwnLL w.heap.size w' v rs ∧ Chg No w w'
set_option maxHeartbeats 1000000 in
theorem twins_any (A : Option Addr) (c : Nat) (ks : Rows_) (w : World) (h : RdL w A ks) (hl : ∀ k ∈ ks, k.2.2.length ≤ 140737488355328) (hks : ks.length ≤ 1000000) :
    Calls Try.prog 95 #[.slice A ks.length c] w (Twinsd (txt ks) w) := by
  obtain ⟨i0, hi, hz0, hz1, hz2⟩ := info_parts info_sl
  have HR := Lib.hid h
  have HL := Lib.hid hl
  have hmax : ks.length ≤ maxLen := by unfold maxLen; omega
  clear h hl
  go_enter Try.func95, Try.ntmps95
  go_wp2
  go_loopw [3, 4] (fun v i wr => ∃ k : Nat, k ≤ ks.length ∧ i = .int .i64 k ∧ ∃ rs, Hid (txt rs = txt (ks.take k) ∧ rs.length = k ∧ OwnLL w.heap.size wr v rs ∧ Chg No w wr)) (fun _ i _ => ks.length - (intOf i).toNat)
  case atStart => exact ⟨0, by omega, rfl, [], rfl, rfl, OwnLL.nil _ _, Chg.refl _ _⟩
  case round =>
    obtain ⟨k, hk, rfl, rs, HD⟩ := hrel
    by_cases hlt : k < ks.length
    · have hr := HR.out.new HD.out.2.2.2
      obtain ⟨⟨b, o, rfl, hc⟩, _⟩ := hr.get hlt
      have HX := Lib.hid (HL.out ks[k] (List.getElem_mem hlt))
      have HE := Lib.hid (hr.2 ks[k] (List.getElem_mem hlt))
      have HT : Hid (txt (ks.take (k + 1)) = txt (ks.take k) ++ [ks[k].2.2]) := by rw [List.take_succ_eq_append_getElem hlt, txt, List.map_append]; rfl
      clear hr
      generalize ks[k] = x at hc HX HE HT
      go_wp2_with fail
      refine (twin_any _ _ x.2.2 _ HE.out HX.out).mono ?_
      rintro e w2 ⟨v2, rfl, h2, k2⟩
      obtain ⟨A2, c2, rfl, _⟩ := own_sl h2
      have h2' := own_chg h2 ((Chg.refl No w2).alloc (.cells #[.slice A2 x.2.2.length c2] 39)) (fun _ _ => id)
      have H2 := Lib.hid h2'
      have K2 := Lib.hid ((HD.out.2.2.2.tr k2).alloc (.cells #[.slice A2 x.2.2.length c2] 39))
      have O2 := Lib.hid ((HD.out.2.2.1.new k2).new ((Chg.refl No w2).alloc (.cells #[.slice A2 x.2.2.length c2] 39)))
      have D2 : Hid (∀ y ∈ rs, ∀ g, (slOf y).ownBlock = some g → g < wr.heap.size) := fun y hy g hg => ((HD.out.2.2.1.each.own y hy).lt g hg).2
      have L2 : Hid (rs.length + 1 ≤ 1000000 ∧ w.heap.size ≤ wr.heap.size ∧ w.heap.size ≤ (w2.alloc (.cells #[.slice A2 x.2.2.length c2] 39)).heap.size) := ⟨by have := HD.out.2.1; omega, HD.out.2.2.2.size, K2.out.size⟩
      clear h2 h2' k2
      go_wp2_with (at_builtin; refine wpList_app rfl (.tmp 11) (.tmp 17) 38 rfl w.heap.size 39 i0 _ 1 24 Try.underlying38 hi hz0 hz1 hz2 rfl (by decide) u3 rs.length (rs.map slOf) rfl O2.out.row (some ⟨w2.heap.size, 0, none⟩) 1 1 [slOf (A2, c2, x.2.2)] rfl (RdV.lit w2 #[.slice A2 x.2.2.length c2] 39 (0, 0)) rfl (slOf_one [(A2, c2, x.2.2)]) (by have := L2.out.1; unfold maxLen; omega) (by have := L2.out.1; omega) L2.out.2.2 ?_; intro v3 w3 hap; have HA := Lib.hid hap; clear hap)
      go_roundw
      case rel =>
        refine ⟨k + 1, by omega, by go_num, rs ++ [(A2, c2, x.2.2)], ?_, by simp [HD.out.2.1], O2.out.appd H2.out L2.out.2.1 D2.out HA.out, HA.out.old K2.out O2.out.row (Nat.le_refl _)⟩
        rw [HT.out, ← HD.out.1, txt, List.map_append]
        rfl
      case measure => simp [intOf]; omega
    · have ht : ks.take k = ks := List.take_of_length_le (by omega)
      rw [ht] at HD
      clear ht
      go_wp2_with fail
      go_ret
      exact ⟨_, rs, rfl, HD.out.1, HD.out.2.2.1, HD.out.2.2.2⟩

/-- Lists: two lists of rows that read alike. -/
theorem lists_same (A B : Option Addr) (c d : Nat) (ks ls : Rows_) (w : World) (h : RdL w A ks) (h' : RdL w B ls) (he : txt ks = txt ls) (hks : ks.length ≤ 1000000) :
    Calls Try.prog 53 #[.slice A ks.length c, .slice B ls.length d] w fun e w' => e = .returned (.bool true) ∧ Chg No w w' := by
  have hlen : ls.length = ks.length := by have := congrArg List.length he; simpa [txt] using this.symm
  rw [hlen]
  have HR := Lib.hid h
  have HR' := Lib.hid h'
  have HE := Lib.hid he
  have HN := Lib.hid hlen
  clear h h' he hlen
  have hne : (((ks.length : Nat) : Int) != ((ks.length : Nat) : Int)) = false := by simp
  go_enter Try.func53, Try.ntmps53
  go_wp2
  go_loopw [5] (fun i wr => ∃ k : Nat, k ≤ ks.length ∧ i = .int .i64 k ∧ Hid (∃ n, wr = w.drewN n)) (fun i _ => ks.length - (intOf i).toNat)
  case atStart => exact ⟨0, by omega, rfl, 0, rfl⟩
  case round =>
    obtain ⟨k, hk, rfl, HD⟩ := hrel
    obtain ⟨n, hn⟩ := HD.out
    subst hn
    by_cases hlt : k < ks.length
    · have hlt' : k < ls.length := by have := HN.out; omega
      obtain ⟨⟨b, o, rfl, hc⟩, hx⟩ := HR.out.get hlt
      obtain ⟨⟨b', o', rfl, hc'⟩, hx'⟩ := HR'.out.get hlt'
      have hexy : ks[k].2.2 = ls[k].2.2 := by
        have := congrArg (fun l => l[k]?) HE.out
        simpa [txt, hlt, hlt'] using this
      have HXY := Lib.hid hexy
      have HX := Lib.hid hx
      have HX' := Lib.hid hx'
      clear hexy hx hx'
      generalize ks[k] = x at *
      generalize ls[k] = y at *
      have hk6 : k < 1000000 := by omega
      have hli : (k : Int) < ks.length := by omega
      have HQ : Hid (∀ W, Rd W x.1 x.2.2 → Rd W y.1 y.2.2 → Calls Try.prog 31 #[.slice x.1 x.2.2.length x.2.1, .slice y.1 y.2.2.length y.2.1] W fun e w' => e = .returned (.bool true) ∧ w' = W) := fun W h1 h2 => (same_any _ _ _ _ _ _ W h1 h2).mono fun e w' ⟨he, hw⟩ => ⟨by rw [he, HXY.out, beq_self_eq_true], hw.symm⟩
      go_wp2_with fail
      go_quiet ((go_at_call 31; exact quiet_add_same' (HQ.out _ (HX.out.drewN _) (HX'.out.drewN _))))
      go_wp2_with fail
      go_roundw
      case rel => exact ⟨k + 1, by omega, by go_num, _, rfl⟩
      case measure => simp [intOf]; omega
    · go_wp2_with fail
      go_ret
      exact ⟨rfl, (Chg.refl No w).drewN n⟩
end Go.Proofs.Ytjmapbhgjhlefaa
