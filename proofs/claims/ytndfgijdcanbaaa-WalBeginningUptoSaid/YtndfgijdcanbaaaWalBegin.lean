/- tidingslaw04.WalBeginning: the frames of batches, one behind the other, tell these batches; the first k of them tell those that end among them. -/
import Derived.Test.YtndfgijdcanbaaaWalWakes
import Derived.Deep.CutBlock
namespace Go.Proofs.Ytndfgijdcanbaaa
open Go.RowKit
set_option linter.unusedVariables false

theorem whole_begin : ∀ (bs : List (List UInt8)) (hb : ∀ b ∈ bs, b.length ≤ 262144) (K n : Nat) (hn : n ≤ bs.length) (h1 : ((bs.take n).map split).flatten.length ≤ K)
    (h2 : n < bs.length → K < ((bs.take (n + 1)).map split).flatten.length), whole (((bs.map split).flatten).take K) = bs.take n
  | [], _, K, n, hn, _, _ => by simp [whole, wholeFrom]
  | b :: bs, hb, K, 0, _, _, h2 => by
    have h := h2 (by simp)
    simp only [List.take_succ_cons, List.take_zero, List.map_cons, List.map_nil, List.flatten_cons, List.flatten_nil, List.append_nil, Nat.zero_add] at h
    rw [List.map_cons, List.flatten_cons, List.take_append, Nat.sub_eq_zero_of_le (by omega), List.take_zero, List.append_nil, List.take_zero]
    obtain ⟨c, hc⟩ := wholeFrom_cut b (hb b (by simp)) K (by rw [length_split] at h; exact h) none []
    rw [List.append_nil] at hc
    unfold whole
    rw [hc, wholeFrom_nil]
  | b :: bs, hb, K, n + 1, hn, h1, h2 => by
    simp only [List.take_succ_cons, List.map_cons, List.flatten_cons, List.length_append, List.length_cons] at h1 h2 hn ⊢
    rw [List.take_append, List.take_of_length_le (by omega)]
    unfold whole
    rw [wholeFrom_split b (hb b (by simp))]
    have ih := whole_begin bs (fun x hx => hb x (by simp [hx])) (K - (split b).length) n (by omega) (by omega) (fun h => by have := h2 (by omega); omega)
    unfold whole at ih
    rw [ih]

theorem info_int : (Try.prog.info? 3).map (fun i => (i.zero, i.size, i.bytes)) = some (some (.int .i64 0), 1, 8) := by kernel_rfl

/-- The batch of the i-th size. -/
def bat (sizes : List Int) (i : Nat) : List UInt8 := long (wi (sizes.getD i 0) 1500) i
def bats (sizes : List Int) (j : Nat) : List (List UInt8) := (List.range j).map (bat sizes)
def cat (sizes : List Int) (j : Nat) : List (List UInt8) := ((bats sizes j).map split).flatten
theorem bats_succ (sizes : List Int) (j : Nat) : bats sizes (j + 1) = bats sizes j ++ [bat sizes j] := by simp [bats, List.range_succ]
theorem cat_succ (sizes : List Int) (j : Nat) : cat sizes (j + 1) = cat sizes j ++ split (bat sizes j) := by simp [cat, bats_succ]
theorem bats_take (sizes : List Int) (j n : Nat) (h : n ≤ j) : (bats sizes j).take n = bats sizes n := by
  rw [bats, ← List.map_take, List.take_range, Nat.min_eq_left h]
  rfl
theorem bat_len (sizes : List Int) (i : Nat) : (bat sizes i).length ≤ 1500 := by
  have := wi_le (sizes.getD i 0) 1500 (by omega)
  rw [bat, length_long]
  omega
theorem cat_len (sizes : List Int) : ∀ j, (cat sizes j).length ≤ j * 4
  | 0 => by simp [cat, bats]
  | j + 1 => by
    rw [cat_succ, List.length_append, length_split]
    have h1 := cat_len sizes j
    have h2 := bat_len sizes j
    have h3 : needN (bat sizes j).length ≤ 4 := by unfold needN; split <;> omega
    omega
theorem cat_flat (sizes : List Int) : ∀ j, (cat sizes j).flatten.length ≤ j * 263040
  | 0 => by simp [cat, bats]
  | j + 1 => by
    rw [cat_succ, List.flatten_append, List.length_append]
    have h1 := cat_flat sizes j
    have h2 := split_flat (bat sizes j) (by have := bat_len sizes j; omega)
    omega
def ends (sizes : List Int) (j : Nat) : List Value := (List.range j).map fun i => .int .i64 ((cat sizes (i + 1)).length : Int)
theorem ends_succ (sizes : List Int) (j : Nat) : ends sizes (j + 1) = ends sizes j ++ [.int .i64 ((cat sizes (j + 1)).length : Int)] := by simp [ends, List.range_succ]

theorem int_one (k : IntKind) (n : Int) : ∀ u ∈ [Value.int k n], u.oneCell' = true := by
  intro u hu
  simp at hu
  subst hu
  rfl
/-- What holds at the head of the first loop. -/
structure BeginAt (sizes : List Int) (w wr : World) (j : Nat) (all end_ : Value) (rs : Rows_) : Prop where
  row : wr.ownsRow w.heap.size 24 1 all rs.length (rs.map slOf)
  each : ∀ x ∈ rs, wr.ownsRow w.heap.size 5 1 (slOf x) x.2.2.length (x.2.2.map bv)
  says : txt rs = cat sizes j
  row2 : wr.ownsRow w.heap.size 3 1 end_ j (ends sizes j)
  chg : Chg No w wr
theorem BeginAt.len {sizes : List Int} {w wr : World} {j : Nat} {all end_ : Value} {rs : Rows_} (h : BeginAt sizes w wr j all end_ rs) : rs.length = (cat sizes j).length := by
  have := congrArg List.length h.says
  simpa [txt] using this

set_option maxRecDepth 10000 in
set_option maxHeartbeats 4000000 in
theorem begin_walk (A : Option Addr) (c : Nat) (sizes : List Int) (k : Int) (w : World)
    (h : sizes.length ≤ c ∧ c ≤ maxLen ∧ RdV w A (sizes.map fun n => .int .i64 n) ∧ sizes.length ≤ 17592186043904 ∧ ∀ n ∈ sizes, -9223372036854775808 ≤ n ∧ n ≤ 9223372036854775807)
    (_hk : -9223372036854775808 ≤ k ∧ k ≤ 9223372036854775807) :
    Calls Try.prog 4 #[.slice A sizes.length c, .int .i64 k] w (Asked true w) := by
  obtain ⟨i0, hi, hz0, hz1, hz2⟩ := info_parts info_sl
  obtain ⟨i3, hi3, hy0, hy1, hy2⟩ := info_parts info_int
  obtain ⟨_, _, hr0, hs0, _⟩ := h
  have HR := Lib.hid hr0
  clear hr0
  go_enter Try.func4, Try.ntmps4
  go_wp2_with fail
  go_loopw [5, 6, 7] (fun all end_ i wr => ∃ j : Nat, j ≤ sizes.length ∧ j ≤ 12 ∧ i = .int .i64 j ∧ ∃ rs, Hid (BeginAt sizes w wr j all end_ rs)) (fun _ _ i _ => 12 - (intOf i).toNat)
  case atStart => exact ⟨0, by omega, by omega, rfl, [], ⟨World.ownsRow_nil _ _ _ _, by simp, rfl, World.ownsRow_nil _ _ _ _, Chg.refl _ _⟩⟩
  case round =>
    obtain ⟨j, hj, hj12, rfl, rs, HD⟩ := hrel
    by_cases hlt : j < sizes.length ∧ j < 12
    · obtain ⟨hlt1, hlt2⟩ := hlt
      obtain ⟨b, o, rfl, hc⟩ := (HR.out.new HD.out.chg).get (j := j) (by simpa using hlt1)
      have hget : sizes.getD j 0 = sizes[j] := by simp [List.getD_eq_getElem?_getD, hlt1]
      rw [List.getElem_map] at hc
      have HB : Hid (bat sizes j = long (wi sizes[j] 1500) j) := by unfold bat; rw [hget]; rfl
      have hwl := wi_le sizes[j] 1500 (by omega)
      have HW := Lib.hid (fun W => within0 sizes[j] 1500 W (by omega) (by omega))
      have HLo : Hid (∀ W, Calls Try.prog 7 #[.int .i64 (wi sizes[j] 1500), .int .i64 j] W (Longed (bat sizes j) W)) := fun W => by rw [HB.out]; exact long_any _ _ W (by omega)
      clear hget HB
      generalize sizes[j] = x at *
      generalize wi x 1500 = X at *
      go_wp2_with fail
      refine (HW.out wr).mono ?_
      rintro e w1 ⟨rfl, rfl⟩
      go_wp2_with fail
      refine (HLo.out wr).mono ?_
      intro e w1 h1
      have hbl := bat_len sizes j
      have HCs := Lib.hid (cat_succ sizes j)
      have HEs := Lib.hid (ends_succ sizes j)
      have hcl := cat_len sizes j
      have hcl2 := cat_len sizes (j + 1)
      obtain ⟨A1, c1, rfl, r1, k1⟩ : ∃ A c, e = .returned (.slice A (bat sizes j).length c) ∧ (Rd w1 A (bat sizes j) ∧ (bat sizes j).length ≤ c ∧ c ≤ 9223372036854775807) ∧ Chg No wr w1 := by
        obtain ⟨g, rfl, _, h2, h3⟩ := h1
        exact ⟨_, _, rfl, ⟨RdV.of_at h2 fun j hj => by simp at hj; simp [hj], Nat.le_refl _, by omega⟩, h3⟩
      have R1 := Lib.hid r1
      have K1 := Lib.hid k1
      clear h1 r1 k1
      generalize bat sizes j = bt at *
      go_wp2_with fail
      refine (split_any A1 c1 bt w1 R1.out.1 R1.out.2.1 R1.out.2.2 (by omega)).mono ?_
      intro e w2 h2
      obtain ⟨A2, c2, rs2, rfl, t2, r2, _, _, _, k2, own2⟩ := splitd_rdl h2
      have T2 := Lib.hid t2
      have R2 := Lib.hid r2
      have W2 := Lib.hid own2
      have K2 := Lib.hid (K1.out.tr k2)
      have KW2 := Lib.hid (HD.out.chg.tr K2.out)
      have hlen := HD.out.len
      have hn2 : rs2.length + rs.length = (cat sizes (j + 1)).length := by
        have e1 := congrArg List.length T2.out
        simp [txt] at e1
        rw [HCs.out, List.length_append]
        omega
      have HN2 := Lib.hid hn2
      have L2 : Hid (rs.length + rs2.length ≤ 48 ∧ w.heap.size ≤ w2.heap.size) := ⟨by omega, KW2.out.size⟩
      have OA := Lib.hid (own_chg HD.out.row K2.out (fun _ _ => id))
      have OE2 := Lib.hid (own_chg HD.out.row2 K2.out (fun _ _ => id))
      clear h2 t2 r2 own2 k2 hlen hn2
      go_wp2_with (first
        | (at_builtin; refine wpList_app rfl (.tmp 21) (.tmp 29) 22 rfl w.heap.size 24 i0 _ 1 24 Try.underlying22 hi hz0 hz1 hz2 rfl (by decide) u5 rs.length (rs.map slOf) rfl OA.out A2 rs2.length c2 (rs2.map slOf) rfl R2.out.1 (by simp) (slOf_one _) (by have := L2.out.1; unfold maxLen; omega) (by have := L2.out.1; omega) L2.out.2 ?_; intro v3 w3 hap; have HA := Lib.hid hap; clear hap; obtain ⟨A3, c3, hv3, _⟩ := own_rd HA.out.own; subst hv3; have KA := Lib.hid (HA.out.old KW2.out OA.out (Nat.le_refl _)); have OE := Lib.hid (own_chg (own_chg OE2.out HA.out.chg (fun g hg e => own_ne OE2.out OA.out (by decide) g hg e.symm)) ((Chg.refl No w3).alloc (.cells #[.int .i64 ((rs.length : Int) + (rs2.length : Int))] 3)) (fun _ _ => id)))
        | (at_builtin; refine wpList_app rfl (.tmp 31) (.tmp 34) 41 rfl w.heap.size 3 i3 _ 1 8 Try.underlying41 hi3 hy0 hy1 hy2 rfl (by decide) u6 j (ends sizes j) rfl OE.out (some ⟨w3.heap.size, 0, none⟩) 1 1 [.int .i64 ((rs.length : Int) + (rs2.length : Int))] rfl (RdV.lit w3 #[.int .i64 ((rs.length : Int) + (rs2.length : Int))] 3 (0, 0)) rfl (int_one _ _) (by unfold maxLen; omega) (by omega) (by have := KA.out.size; simp; omega) ?_; intro v4 w4 hap; have HA4 := Lib.hid hap; clear hap))
      go_roundw
      case rel =>
        have hsl : ∀ g, Value.ownBlock u6 = some g → u5.ownBlock ≠ some g := own_ne OE2.out OA.out (by decide)
        have KE := HA4.out.old (KA.out.alloc (.cells #[.int .i64 ((rs.length : Int) + (rs2.length : Int))] 3)) OE.out (Nat.le_refl _)
        have hcat : (rs ++ rs2).map slOf = rs.map slOf ++ rs2.map slOf := List.map_append
        have a3 := own_chg HA.out.own ((Chg.refl No w3).alloc (.cells #[.int .i64 ((rs.length : Int) + (rs2.length : Int))] 3)) (fun _ _ => id)
        have a4 := own_chg a3 HA4.out.chg (fun g hg e => own_ne a3 OE.out (by decide) g hg e.symm)
        refine ⟨j + 1, by omega, by omega, by go_num, rs ++ rs2, ?_, fun x hx => ?_, ?_, ?_, KE⟩
        · rw [hcat, List.length_append]
          exact a4
        · have hx2 : w2.ownsRow w.heap.size 5 1 (slOf x) x.2.2.length (x.2.2.map bv) := by
            rcases List.mem_append.1 hx with h | h
            · exact own_chg (HD.out.each x h) K2.out (fun _ _ => id)
            · exact own_base (W2.out.own x h) (by have := HD.out.chg.size; have := K1.out.size; omega)
          have x3 := own_chg hx2 HA.out.chg (fun g hg e => own_ne hx2 OA.out (by decide) g hg e.symm)
          have x3' := own_chg x3 ((Chg.refl No w3).alloc (.cells #[.int .i64 ((rs.length : Int) + (rs2.length : Int))] 3)) (fun _ _ => id)
          exact own_chg x3' HA4.out.chg (fun g hg e => own_ne x3' OE.out (by decide) g hg e.symm)
        · rw [txt_append, HD.out.says, T2.out, HCs.out]
        · rw [HEs.out, ← HN2.out]
          have := HA4.out.own
          rw [show (((rs2.length + rs.length : Nat)) : Int) = (rs.length : Int) + (rs2.length : Int) from by omega]
          exact this
      case measure => simp [intOf]; omega
    · have hJ : j = sizes.length ∨ j = 12 := by omega
      have hJ12 : j ≤ 12 := hj12
      have hlen := HD.out.len
      have hcl := cat_len sizes j
      have hcf := cat_flat sizes j
      obtain ⟨Aa, ca, rfl, ra, rca, rcm, _⟩ := own_rd HD.out.row
      obtain ⟨Ae, ce, rfl, re, rce, rcem, _⟩ := own_rd HD.out.row2
      have RA : Hid (RdL wr Aa rs) := ⟨ra, fun x hx => RdV.of_own (HD.out.each x hx)⟩
      have QA : Hid (∀ x ∈ rs, x.2.2.length ≤ x.2.1 ∧ x.2.1 ≤ maxLen) := fun x hx => by
        obtain ⟨A5, c5, e, _, h1, h2, _⟩ := own_rd (HD.out.each x hx)
        unfold slOf at e
        injection e with _ _ e
        rw [e]
        exact ⟨h1, h2⟩
      have RE := Lib.hid re
      have TA := Lib.hid HD.out.says
      have KA := Lib.hid HD.out.chg
      clear HD ra re rcm rcem
      obtain ⟨wa, rfl⟩ : ∃ wa : World, wa = wr := ⟨_, rfl⟩
      have hKl := wi_le k rs.length (by omega)
      have HWk := Lib.hid (fun W => within0 k rs.length W (by omega) (by omega))
      generalize wi k rs.length = K at hKl HWk
      have HWh : Hid (∀ C, Calls Try.prog 10 #[.slice Aa K C] wa (Wholed ((cat sizes j).take K) wa)) := fun C => by
        have hk : (rs.take K).length = K := by rw [List.length_take]; omega
        have ht : txt (rs.take K) = (cat sizes j).take K := by rw [← TA.out, txt, txt, List.map_take]
        have h1 : ((cat sizes j).take K).flatten.length ≤ (cat sizes j).flatten.length := by
          conv => rhs; rw [← List.take_append_drop K (cat sizes j)]
          rw [List.flatten_append, List.length_append]
          omega
        have := whole_any Aa C (rs.take K) wa (RA.out.take K) (fun x hx => QA.out x (List.mem_of_mem_take hx)) (by rw [ht]; omega) (by omega)
        rwa [hk, ht] at this
      have hKc : (K : Int) ≤ ca := by omega
      have hJ : ¬ j < sizes.length ∨ (j < sizes.length ∧ ¬ j < 12) := by omega
      have hrl : rs.length ≤ 48 := by omega
      clear hlt hlen hcl hcf
      rcases hJ with g1 | ⟨g1, g2⟩
      all_goals
        go_wp2_with fail
        refine (HWk.out wa).mono ?_
        rintro e w6 ⟨rfl, rfl⟩
        go_wp2_with fail
        refine (HWh.out _).mono ?_
        intro e w7 h7
        obtain ⟨A7, c7, rs7, rfl, t7, r7, k7⟩ := wholed_rdl h7
        have T7 := Lib.hid t7
        have R7 := Lib.hid r7
        have K7 := Lib.hid k7
        clear h7 t7 r7 k7
        go_upto_block 2 with fail
        go_cut [9] (fun s wx => ∃ n : Nat, s = .int .i64 n ∧ Hid (w7 = wx ∧ n ≤ j ∧ (cat sizes n).length ≤ K ∧ (n < j → K < (cat sizes (n + 1)).length)))
        case first =>
          go_wp2_with fail
          go_loop [9] (fun i => ∃ n : Nat, n ≤ j ∧ i = .int .i64 n ∧ Hid ((cat sizes n).length ≤ K)) (fun i => j - (intOf i).toNat)
          case atStart => exact ⟨0, by omega, rfl, by simp [cat, bats, Hid]⟩
          case round =>
            obtain ⟨n, hn, rfl, HN⟩ := hrel
            by_cases hnj : n < j
            · obtain ⟨be, oe, rfl, hce⟩ := (RE.out.new K7.out).get (j := n) (by simpa [ends] using hnj)
              have hce' : w7.cell? ⟨be, oe + n, none⟩ = some (.int .i64 ((cat sizes (n + 1)).length : Int)) := by rw [hce]; simp [ends]
              clear hce
              have hnj' : (n : Int) < j := by omega
              by_cases hle : (cat sizes (n + 1)).length ≤ K
              · have hle' : ((cat sizes (n + 1)).length : Int) ≤ K := by omega
                have HLe := Lib.hid hle
                clear hle
                go_wp2_with fail
                go_round
                case rel => exact ⟨n + 1, by omega, by go_num, HLe.out⟩
                case measure => simp [intOf]; omega
              · have hle' : ¬ ((cat sizes (n + 1)).length : Int) ≤ K := by omega
                have HLe := Lib.hid hle
                clear hle
                go_wp2_with fail
                go_meet
                exact ⟨n, rfl, rfl, by omega, HN.out, fun _ => by have := HLe.out; omega⟩
            · go_wp2_with fail
              go_meet
              exact ⟨n, rfl, rfl, by omega, HN.out, fun h => absurd h hnj⟩
        case rest =>
          obtain ⟨n, rfl, HC⟩ := hcut
          obtain rfl := HC.out.1
          have hnj := HC.out.2.1
          have hbs : whole ((cat sizes j).take K) = bats sizes n := by
            have h1 := whole_begin (bats sizes j) (fun b hb => by obtain ⟨i, _, rfl⟩ := List.mem_map.1 hb; have := bat_len sizes i; omega) K n (by simp [bats]; exact hnj)
              (by rw [bats_take _ _ _ hnj]; exact HC.out.2.2.1) (fun h => by
                have h' : n < j := by simpa [bats] using h
                rw [bats_take _ _ _ (by omega)]
                exact HC.out.2.2.2 h')
            rw [bats_take _ _ _ hnj] at h1
            exact h1
          have T7' : Hid (txt rs7 = bats sizes n) := by rw [← hbs]; exact T7.out
          have hl7 : rs7.length = n := by have := congrArg List.length T7'.out; simpa [txt, bats] using this
          have hl7' : ((rs7.length : Int) != (n : Int)) = false := by rw [hl7]; simp
          have HL7 := Lib.hid hl7
          clear hbs hl7
          have KW := Lib.hid (KA.out.tr K7.out)
          go_wp2_with fail
          go_loopw [10] (fun i wr => ∃ q : Nat, q ≤ n ∧ i = .int .i64 q ∧ Hid (Chg No w7 wr)) (fun i _ => n - (intOf i).toNat)
          case atStart => exact ⟨0, by omega, rfl, Chg.refl _ _⟩
          case round =>
            obtain ⟨q, hq, rfl, HD⟩ := hrel
            by_cases hqn : q < n
            · have hq7 : q < rs7.length := by have := HL7.out; omega
              have hqs : q < sizes.length := by omega
              obtain ⟨⟨b7, o7, rfl, hc7⟩, hrd7⟩ := (R7.out.new HD.out).get hq7
              obtain ⟨bs, os, rfl, hcs⟩ := (HR.out.new (KW.out.tr HD.out)).get (j := q) (by simpa using hqs)
              rw [List.getElem_map] at hcs
              have hget : sizes.getD q 0 = sizes[q] := by simp [List.getD_eq_getElem?_getD, hqs]
              have HB : Hid (bat sizes q = long (wi sizes[q] 1500) q) := by unfold bat; rw [hget]; rfl
              have hwl := wi_le sizes[q] 1500 (by omega)
              have HW := Lib.hid (fun W => within0 sizes[q] 1500 W (by omega) (by omega))
              have HLo : Hid (∀ W, Calls Try.prog 7 #[.int .i64 (wi sizes[q] 1500), .int .i64 q] W (Longed (bat sizes q) W)) := fun W => by rw [HB.out]; exact long_any _ _ W (by omega)
              have h7b : rs7[q].2.2 = bat sizes q := by
                have := congrArg (fun l => l[q]?) T7'.out
                simpa [txt, bats, hq7, hqn] using this
              rw [h7b] at hc7 hrd7
              have R8 := Lib.hid hrd7
              have X7 := Lib.hid hc7
              have Xs := Lib.hid hcs
              have hi7 : (q : Int) < rs7.length := by omega
              have his : (q : Int) < sizes.length := by omega
              clear hget HB h7b hrd7
              generalize sizes[q] = x at *
              generalize rs7[q].1 = ax at *
              generalize rs7[q].2.1 = cx at *
              generalize wi x 1500 = X at *
              generalize bat sizes q = bt at *
              go_wp2_with fail
              go_region_held3 (fun w' => w'.cell? ⟨b7, o7 + q, none⟩ = some (.slice ax bt.length cx) ∧ w'.cell? ⟨bs, os + q, none⟩ = some (.int .i64 x)) (first | exact q8 | go_keep)
                (first
                  | (go_at_call 6; refine (HW.out _).mono ?_; rintro e w9 ⟨rfl, rfl⟩)
                  | (go_at_call 7; refine (HLo.out _).mono ?_; rintro e w8 ⟨g8, rfl, g1, g2, g3⟩; have q8 := And.intro (g3.cell X7.out id) (g3.cell Xs.out id))
                  | (go_at_call 21; refine (same_any _ _ _ _ bt bt _ (by exact Rd.new (w := wr.drew) R8.out g3) (by exact RdV.of_at g2 fun j hj => by simp at hj; simp [hj])).mono ?_; rintro e w9 ⟨rfl, rfl⟩))
              go_wp2_with fail
              go_roundw
              case rel => exact ⟨q + 1, by omega, by go_num, (HD.out.drew).tr g3⟩
              case measure => simp [intOf]; omega
            · go_wp2_with fail
              refine (wakes_any _).mono ?_
              rintro e w9 ⟨rfl, k9⟩
              go_wp2_with fail
              go_ret
              exact ⟨rfl, (KW.out.tr HD.out).tr k9⟩
end Go.Proofs.Ytndfgijdcanbaaa
