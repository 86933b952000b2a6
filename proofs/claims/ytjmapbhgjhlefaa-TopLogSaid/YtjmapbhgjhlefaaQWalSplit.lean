/- wal.Split: a batch's frames. -/
import Derived.Test.YtjmapbhgjhlefaaQWalWalk
namespace Go.Proofs.Ytjmapbhgjhlefaa
open Go.RowKit
set_option linter.unusedVariables false
set_option maxRecDepth 100000

def Splitd (b : List UInt8) (w : World) (e : Ending) (w' : World) : Prop := ∃ v rs, e = .returned v ∧ txt rs = split b ∧ OwnLL w.heap.size w' v rs ∧ Chg No w w'
theorem bits_or1 : bits .or .u8 0 1 = 1 := by decide
theorem bits_or2 : bits .or .u8 0 2 = 2 := by decide
theorem bits_or3 : bits .or .u8 1 2 = 3 := by decide
def flag0 (k : Nat) : Int := if k = 0 then 1 else 0
theorem flag0_no {k : Nat} (h : ¬ k = 0) : flag0 k = 0 := if_neg h
theorem flag_yes {k N : Nat} (h : k + 1 = N) : bits .or .u8 (flag0 k) 2 = ((flagOf k N).toNat : Int) := by
  unfold flag0 flagOf
  by_cases h0 : k = 0
  · rw [if_pos h0, if_pos h0, if_pos h]; decide
  · rw [if_neg h0, if_neg h0, if_pos h]; decide
theorem flag_no {k N : Nat} (h : ¬ k + 1 = N) : flag0 k = ((flagOf k N).toNat : Int) := by
  unfold flag0 flagOf
  by_cases h0 : k = 0
  · rw [if_pos h0, if_pos h0, if_neg h]; decide
  · rw [if_neg h0, if_neg h0, if_neg h]; decide
set_option maxRecDepth 10000 in
set_option maxHeartbeats 2000000 in
theorem split_pos (A : Option Addr) (c : Nat) (b : List UInt8) (w : World) (h : Rd w A b) (hc : b.length ≤ c) (hmax : c ≤ 9223372036854775807) (hb : b.length ≤ 262144) (hpos : 0 < c) :
    Calls Try.prog 47 #[.slice A b.length c] w (Splitd b w) := by
  obtain ⟨i0, hi, hz0, hz1, hz2⟩ := info_parts info_sl
  have HR := Lib.hid h
  have hN1 := needN_pos b.length hb
  have hN2 := needN_le b.length
  have hN3 := needN_cover b.length hb
  have hN4 : (needN b.length - 1) * 479 ≤ b.length ∧ (1 < needN b.length → (needN b.length - 1) * 479 < b.length) := by unfold needN; rw [if_pos hb]; omega
  have HNd : Hid (∀ i, frame b i = flagOf i (needN b.length) :: piece b i) := fun _ => rfl
  have HS : Hid (split b = (List.range (needN b.length)).map (frame b)) := rfl
  have HNeed : Hid (∀ W, Calls Try.prog 50 #[.int .i64 b.length] W fun e w' => e = .returned (.int .i64 (needN b.length)) ∧ W = w') := fun W => by
    have := need_any (b.length : Int) W (by omega)
    have e : needI (b.length : Int) = (needN b.length : Int) := by rw [needI, if_pos (by omega), Int.toNat_natCast]
    rwa [e] at this
  clear h
  generalize needN b.length = N at *
  have o1 := bits_or1
  have o2 := bits_or2
  have o3 := bits_or3
  go_enter Try.func47, Try.ntmps47
  go_wp2_with fail
  refine (HNeed.out w).mono ?_
  rintro e w1 ⟨rfl, rfl⟩
  go_wp2_with fail
  go_loopw [4, 5, 6, 11] (fun v _ _ i wr => ∃ k : Nat, k ≤ N ∧ i = .int .i64 k ∧ ∃ rs, Hid (txt rs = (List.range k).map (frame b) ∧ rs.length = k ∧ OwnLL w.heap.size wr v rs ∧ Chg No w wr)) (fun _ _ _ i _ => N - (intOf i).toNat)
  case atStart => exact ⟨0, by omega, rfl, [], rfl, rfl, OwnLL.nil _ _, Chg.refl _ _⟩
  case round =>
    obtain ⟨k, hk, rfl, rs, HD⟩ := hrel
    by_cases hlt : k < N
    · have HH := Lib.hid hN4
      have HH3 := Lib.hid hN3
      have HHc := Lib.hid hc
      have HHb := Lib.hid hb
      clear hN3 hN4 hc hb
      go_upto_if 15 with fail
      go_cut [6] (fun s wx => s = .int .u8 (flag0 k) ∧ Hid (wx = wr))
      case first =>
        by_cases h0 : k = 0
        · subst h0
          go_wp2_with fail
          go_meet
          exact ⟨rfl, rfl⟩
        · have q0 : ((k : Int) == 0) = false := by rw [beq_eq_false_iff_ne]; omega
          have HF := Lib.hid (flag0_no h0)
          clear h0
          go_wp2_with fail
          go_meet
          exact ⟨by rw [HF.out], rfl⟩
      case rest =>
        obtain ⟨rfl, HW⟩ := hcut
        obtain rfl := HW.out
        go_upto_if 21 with fail
        go_cut [6] (fun s wx => s = .int .u8 ((flagOf k N).toNat : Int) ∧ Hid (wx = wc))
        case first =>
          by_cases h1 : k + 1 = N
          · have q1 : ((k : Int) == (N : Int) - 1) = true := by rw [beq_iff_eq]; omega
            have HF := Lib.hid (flag_yes h1)
            clear h1
            go_wp2_with fail
            go_meet
            exact ⟨by rw [← HF.out], rfl⟩
          · have q1 : ((k : Int) == (N : Int) - 1) = false := by rw [beq_eq_false_iff_ne]; omega
            have HF := Lib.hid (flag_no h1)
            clear h1
            go_wp2_with fail
            go_meet
            exact ⟨by rw [← HF.out], rfl⟩
        case rest =>
          obtain ⟨rfl, HW2⟩ := hcut
          have hw2 := HW2.out
          subst hw2
          have hlo : (k : Int) * 479 ≤ b.length := by have := HH.out; have := Nat.mul_le_mul_right 479 (show k ≤ N - 1 by omega); omega
          have hlc : (k : Int) * 479 ≤ c := by have := HHc.out; omega
          have HJ : Hid (∀ (A2 : Option Addr) (n2 C2 : Nat), n2 = (piece b k).length → Rd w A2 (piece b k) →
              Calls Try.prog 80 #[.slice (some ⟨wc.heap.size + 1, 0, none⟩) 2 2] ((wc.alloc (.cells #[.int .u8 ((flagOf k N).toNat : Int)] 5)).alloc (.cells #[.slice (some ⟨wc.heap.size, 0, none⟩) 1 1, .slice A2 n2 C2] 39))
                (Joined (frame b k) ((wc.alloc (.cells #[.int .u8 ((flagOf k N).toNat : Int)] 5)).alloc (.cells #[.slice (some ⟨wc.heap.size, 0, none⟩) 1 1, .slice A2 n2 C2] 39)))) := by
            intro A2 n2 C2 hn hrd
            subst hn
            have hpl := piece_len b k
            have ht : (txt [((some ⟨wc.heap.size, 0, none⟩ : Option Addr), 1, [flagOf k N]), (A2, C2, piece b k)]).flatten = frame b k := by rw [HNd.out k]; simp [txt]
            rw [← ht]
            refine join_any _ 2 [((some ⟨wc.heap.size, 0, none⟩ : Option Addr), 1, [flagOf k N]), (A2, C2, piece b k)] _ ⟨?_, ?_⟩ ?_ (by simp)
            · have := RdV.lit (wc.alloc (.cells #[.int .u8 ((flagOf k N).toNat : Int)] 5)) #[.slice (some ⟨wc.heap.size, 0, none⟩) 1 1, .slice A2 (piece b k).length C2] 39 (0, 0)
              simpa [slOf] using this
            · intro x hx
              simp at hx
              rcases hx with rfl | rfl
              · have h1 : RdV (wc.alloc (.cells #[.int .u8 ((flagOf k N).toNat : Int)] 5)) (some ⟨wc.heap.size, 0, none⟩) [bv (flagOf k N)] := RdV.lit wc #[.int .u8 ((flagOf k N).toNat : Int)] 5 (0, 0)
                exact h1.alloc _
              · exact ((hrd.new HD.out.2.2.2).alloc _).alloc _
            · simp [txt, hpl]
              have := HHb.out
              omega
          have HP1 : Hid (¬ c = k * 479 → Rd w (A.map fun x => x.add (k * 479)) (piece b k)) := fun hck => by
            have := (HR.out.take (min ((k + 1) * 479) b.length)).drop (k := k * 479) (cap := c) (by rw [List.length_take]; omega) (by rw [List.length_take]; have := HHc.out; omega)
            rwa [if_neg hck] at this
          have HP2 : Hid (c = k * 479 → Rd w A (piece b k)) := fun hck => by
            have := (HR.out.take (min ((k + 1) * 479) b.length)).drop (k := k * 479) (cap := c) (by rw [List.length_take]; omega) (by rw [List.length_take]; have := HHc.out; omega)
            rwa [if_pos hck] at this
          have HL := Lib.hid (piece_len b k)
          have hcl := HHc.out
          have hkc : (k : Int) * 479 < c := by
            have h1 := HH.out
            have h2 := Nat.mul_le_mul_right 479 (show k ≤ N - 1 by omega)
            rcases Nat.lt_or_ge 1 N with h3 | h3
            · have := h1.2 h3; omega
            · have : k = 0 := by omega
              subst this; omega
          by_cases hm : ((k : Int) + 1) * 479 ≤ (b.length : Int)
          · have hcc : ((k : Int) + 1) * 479 ≤ c := by omega
            go_wp2_with fail
            all_goals
              refine (HJ.out _ _ _ (by have := HL.out; omega) (by first | exact HP1.out (by omega) | exact HP2.out (by omega))).mono ?_
              rintro e w2 ⟨v2, rfl, h2, k2⟩
              obtain ⟨A2, c2, rfl, _⟩ := own_sl h2
              have kk := (((Chg.refl No wc).alloc (.cells #[.int .u8 ((flagOf k N).toNat : Int)] 5)).alloc _).tr k2
              have h2' := own_chg h2 ((Chg.refl No w2).alloc (.cells #[.slice A2 (frame b k).length c2] 39)) (fun _ _ => id)
              have H2 := Lib.hid (own_base (base' := wc.heap.size + 2) h2' (by simp))
              have K2 := Lib.hid ((HD.out.2.2.2.tr kk).alloc (.cells #[.slice A2 (frame b k).length c2] 39))
              have O2 := Lib.hid ((HD.out.2.2.1.new kk).new ((Chg.refl No w2).alloc (.cells #[.slice A2 (frame b k).length c2] 39)))
              have D2 : Hid (∀ y ∈ rs, ∀ g, (slOf y).ownBlock = some g → g < wc.heap.size + 2) := fun y hy g hg => by have := ((HD.out.2.2.1.each.own y hy).lt g hg).2; omega
              have L2 : Hid (rs.length + 1 ≤ 1000000 ∧ w.heap.size ≤ wc.heap.size + 2 ∧ w.heap.size ≤ (w2.alloc (.cells #[.slice A2 (frame b k).length c2] 39)).heap.size) := ⟨by have := HD.out.2.1; omega, by have := HD.out.2.2.2.size; omega, K2.out.size⟩
              clear h2 h2' k2 kk
              go_wp2_with (at_builtin; refine wpList_app rfl (.tmp 24) (.tmp 39) 38 rfl w.heap.size 39 i0 _ 1 24 Try.underlying38 hi hz0 hz1 hz2 rfl (by decide) u4 rs.length (rs.map slOf) rfl O2.out.row (some ⟨w2.heap.size, 0, none⟩) 1 1 [slOf (A2, c2, frame b k)] rfl (RdV.lit w2 #[.slice A2 (frame b k).length c2] 39 (0, 0)) rfl (slOf_one [(A2, c2, frame b k)]) (by have := L2.out.1; unfold maxLen; omega) (by have := L2.out.1; omega) L2.out.2.2 ?_; intro v3 w3 hap; have HA := Lib.hid hap; clear hap)
              go_roundw
              case rel =>
                refine ⟨k + 1, by omega, by go_num, rs ++ [(A2, c2, frame b k)], ?_, by simp [HD.out.2.1], O2.out.appd H2.out L2.out.2.1 D2.out HA.out, HA.out.old K2.out O2.out.row (Nat.le_refl _)⟩
                rw [List.range_succ, List.map_append, ← HD.out.1, txt, List.map_append]
                rfl
              case measure => simp [intOf]; omega
          · have hm' : (b.length : Int) < ((k : Int) + 1) * 479 := by omega
            go_wp2_with fail
            all_goals
              refine (HJ.out _ _ _ (by have := HL.out; omega) (by first | exact HP1.out (by omega) | exact HP2.out (by omega))).mono ?_
              rintro e w2 ⟨v2, rfl, h2, k2⟩
              obtain ⟨A2, c2, rfl, _⟩ := own_sl h2
              have kk := (((Chg.refl No wc).alloc (.cells #[.int .u8 ((flagOf k N).toNat : Int)] 5)).alloc _).tr k2
              have h2' := own_chg h2 ((Chg.refl No w2).alloc (.cells #[.slice A2 (frame b k).length c2] 39)) (fun _ _ => id)
              have H2 := Lib.hid (own_base (base' := wc.heap.size + 2) h2' (by simp))
              have K2 := Lib.hid ((HD.out.2.2.2.tr kk).alloc (.cells #[.slice A2 (frame b k).length c2] 39))
              have O2 := Lib.hid ((HD.out.2.2.1.new kk).new ((Chg.refl No w2).alloc (.cells #[.slice A2 (frame b k).length c2] 39)))
              have D2 : Hid (∀ y ∈ rs, ∀ g, (slOf y).ownBlock = some g → g < wc.heap.size + 2) := fun y hy g hg => by have := ((HD.out.2.2.1.each.own y hy).lt g hg).2; omega
              have L2 : Hid (rs.length + 1 ≤ 1000000 ∧ w.heap.size ≤ wc.heap.size + 2 ∧ w.heap.size ≤ (w2.alloc (.cells #[.slice A2 (frame b k).length c2] 39)).heap.size) := ⟨by have := HD.out.2.1; omega, by have := HD.out.2.2.2.size; omega, K2.out.size⟩
              clear h2 h2' k2 kk
              go_wp2_with (at_builtin; refine wpList_app rfl (.tmp 24) (.tmp 39) 38 rfl w.heap.size 39 i0 _ 1 24 Try.underlying38 hi hz0 hz1 hz2 rfl (by decide) u4 rs.length (rs.map slOf) rfl O2.out.row (some ⟨w2.heap.size, 0, none⟩) 1 1 [slOf (A2, c2, frame b k)] rfl (RdV.lit w2 #[.slice A2 (frame b k).length c2] 39 (0, 0)) rfl (slOf_one [(A2, c2, frame b k)]) (by have := L2.out.1; unfold maxLen; omega) (by have := L2.out.1; omega) L2.out.2.2 ?_; intro v3 w3 hap; have HA := Lib.hid hap; clear hap)
              go_roundw
              case rel =>
                refine ⟨k + 1, by omega, by go_num, rs ++ [(A2, c2, frame b k)], ?_, by simp [HD.out.2.1], O2.out.appd H2.out L2.out.2.1 D2.out HA.out, HA.out.old K2.out O2.out.row (Nat.le_refl _)⟩
                rw [List.range_succ, List.map_append, ← HD.out.1, txt, List.map_append]
                rfl
              case measure => simp [intOf]; omega
    · obtain rfl : k = N := by omega
      go_wp2_with fail
      go_ret
      exact ⟨_, rs, rfl, by rw [HS.out]; exact HD.out.1, HD.out.2.2.1, HD.out.2.2.2⟩

set_option maxRecDepth 10000 in
set_option maxHeartbeats 2000000 in
theorem split_zero (A : Option Addr) (w : World) :
    Calls Try.prog 47 #[.slice A 0 0] w (Splitd [] w) := by
  obtain ⟨i0, hi, hz0, hz1, hz2⟩ := info_parts info_sl
  have HNeed : Hid (∀ W, Calls Try.prog 50 #[.int .i64 0] W fun e w' => e = .returned (.int .i64 1) ∧ W = w') := fun W => by
    have := need_any 0 W (by omega)
    have e : needI 0 = 1 := by decide
    rwa [e] at this
  have HS : Hid (split [] = [[3]]) := by unfold Hid; decide
  have o1 := bits_or1
  have o3 := bits_or3
  go_enter Try.func47, Try.ntmps47
  go_wp2_with fail
  refine (HNeed.out w).mono ?_
  rintro e w1 ⟨rfl, rfl⟩
  go_wp2_with fail
  go_loopw [4, 5, 6, 11] (fun v _ _ i wr => ∃ k : Nat, k ≤ 1 ∧ i = .int .i64 k ∧ ∃ rs, Hid (txt rs = List.replicate k [3] ∧ rs.length = k ∧ OwnLL w.heap.size wr v rs ∧ Chg No w wr)) (fun _ _ _ i _ => 1 - (intOf i).toNat)
  case atStart => exact ⟨0, by omega, rfl, [], rfl, rfl, OwnLL.nil _ _, Chg.refl _ _⟩
  case round =>
    obtain ⟨k, hk, rfl, rs, HD⟩ := hrel
    by_cases hlt : k < 1
    · obtain rfl : k = 0 := by omega
      have HJ : Hid (Calls Try.prog 80 #[.slice (some ⟨wr.heap.size + 1, 0, none⟩) 2 2] ((wr.alloc (.cells #[.int .u8 3] 5)).alloc (.cells #[.slice (some ⟨wr.heap.size, 0, none⟩) 1 1, .slice A 0 0] 39))
          (Joined [3] ((wr.alloc (.cells #[.int .u8 3] 5)).alloc (.cells #[.slice (some ⟨wr.heap.size, 0, none⟩) 1 1, .slice A 0 0] 39)))) := by
        refine join_any _ 2 [((some ⟨wr.heap.size, 0, none⟩ : Option Addr), 1, [3]), (A, 0, [])] _ ⟨?_, ?_⟩ (by simp [txt]) (by simp)
        · have := RdV.lit (wr.alloc (.cells #[.int .u8 3] 5)) #[.slice (some ⟨wr.heap.size, 0, none⟩) 1 1, .slice A 0 0] 39 (0, 0)
          simpa [slOf] using this
        · intro x hx
          simp at hx
          rcases hx with rfl | rfl
          · have h1 : RdV (wr.alloc (.cells #[.int .u8 3] 5)) (some ⟨wr.heap.size, 0, none⟩) [bv 3] := RdV.lit wr #[.int .u8 3] 5 (0, 0)
            exact h1.alloc _
          · exact Rd.nil _ _
      go_wp2_with fail
      refine HJ.out.mono ?_
      rintro e w2 ⟨v2, rfl, h2, k2⟩
      obtain ⟨A2, c2, rfl, _⟩ := own_sl h2
      have kk := (((Chg.refl No wr).alloc (.cells #[.int .u8 3] 5)).alloc _).tr k2
      have h2' := own_chg h2 ((Chg.refl No w2).alloc (.cells #[.slice A2 1 c2] 39)) (fun _ _ => id)
      have H2 := Lib.hid (own_base (base' := wr.heap.size + 2) h2' (by simp))
      have K2 := Lib.hid ((HD.out.2.2.2.tr kk).alloc (.cells #[.slice A2 1 c2] 39))
      have O2 := Lib.hid ((HD.out.2.2.1.new kk).new ((Chg.refl No w2).alloc (.cells #[.slice A2 1 c2] 39)))
      have D2 : Hid (∀ y ∈ rs, ∀ g, (slOf y).ownBlock = some g → g < wr.heap.size + 2) := fun y hy g hg => by have := ((HD.out.2.2.1.each.own y hy).lt g hg).2; omega
      have L2 : Hid (rs.length + 1 ≤ 1000000 ∧ w.heap.size ≤ wr.heap.size + 2 ∧ w.heap.size ≤ (w2.alloc (.cells #[.slice A2 1 c2] 39)).heap.size) := ⟨by have := HD.out.2.1; omega, by have := HD.out.2.2.2.size; omega, K2.out.size⟩
      clear h2 h2' k2 kk
      go_wp2_with (at_builtin; refine wpList_app rfl (.tmp 24) (.tmp 39) 38 rfl w.heap.size 39 i0 _ 1 24 Try.underlying38 hi hz0 hz1 hz2 rfl (by decide) u4 rs.length (rs.map slOf) rfl O2.out.row (some ⟨w2.heap.size, 0, none⟩) 1 1 [slOf (A2, c2, [3])] rfl (RdV.lit w2 #[.slice A2 1 c2] 39 (0, 0)) rfl (slOf_one [(A2, c2, [3])]) (by have := L2.out.1; unfold maxLen; omega) (by have := L2.out.1; omega) L2.out.2.2 ?_; intro v3 w3 hap; have HA := Lib.hid hap; clear hap)
      go_roundw
      case rel =>
        refine ⟨1, by omega, rfl, rs ++ [(A2, c2, [3])], ?_, by simp [HD.out.2.1], O2.out.appd H2.out L2.out.2.1 D2.out HA.out, HA.out.old K2.out O2.out.row (Nat.le_refl _)⟩
        have := HD.out.1
        rw [txt, List.map_append]
        show txt rs ++ [[3]] = _
        rw [this]
        rfl
      case measure => simp [intOf]
    · obtain rfl : k = 1 := by omega
      go_wp2_with fail
      go_ret
      exact ⟨_, rs, rfl, by rw [HS.out]; exact HD.out.1, HD.out.2.2.1, HD.out.2.2.2⟩

theorem split_any (A : Option Addr) (c : Nat) (b : List UInt8) (w : World) (h : Rd w A b) (hc : b.length ≤ c) (hmax : c ≤ 9223372036854775807) (hb : b.length ≤ 262144) :
    Calls Try.prog 47 #[.slice A b.length c] w (Splitd b w) := by
  rcases Nat.eq_zero_or_pos c with h0 | h0
  · subst h0
    have hb0 : b = [] := List.eq_nil_of_length_eq_zero (by omega)
    subst hb0
    exact split_zero A w
  · exact split_pos A c b w h hc hmax hb h0
end Go.Proofs.Ytjmapbhgjhlefaa
