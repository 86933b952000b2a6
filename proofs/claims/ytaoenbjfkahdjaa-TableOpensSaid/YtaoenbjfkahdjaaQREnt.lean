/- The document's Entries. (Written by gen_tabrent.py.) -/
import Derived.Test.YtaoenbjfkahdjaaQREntP
import Derived.Test.YtaoenbjfkahdjaaQRBuild
import Derived.Test.YtaoenbjfkahdjaaQTabBuilds
namespace Go.Proofs.Ytaoenbjfkahdjaa
open Go.RowKit
set_option linter.unusedVariables false
set_option maxRecDepth 100000

/-- What the document tells of bytes. -/
def REnt (b : List UInt8) (w : World) (x : Ending) (w' : World) : Prop :=
  (openE b ≠ 0 ∧ x = .returned (.tuple #[.slice none 0 0, .int .i64 (openE b : Nat)]) ∧ Chg No w w') ∨
  (openE b = 0 ∧ ∃ (es : List En) (A : Option Addr) (c : Nat), x = .returned (.tuple #[.slice A es.length c, .int .i64 0]) ∧ es.map En.ent = (readP b).1 ∧ es.length ≤ c ∧ c ≤ maxLen ∧ Sat w (Row 34 4 (.slice A es.length c) es.length (es.flatMap enV) * (OwnE es * Emp)) w')
theorem REnt.no {b : List UInt8} {w w' : World} {x : Ending} {z : Nat} (h : openE b = z) (hz : z ≠ 0) (hx : x = .returned (.tuple #[.slice none 0 0, .int .i64 (z : Nat)])) (k : Chg No w w') : REnt b w x w' := by
  subst h
  exact .inl ⟨hz, hx, k⟩
theorem rget_n (A : Option Addr) (c : Nat) (l : List UInt8) (n : Nat) (hn : n = l.length) (z : Nat) (hz : getN l = z) (w : World) (h : Rd w A l) (hl : l.length ≤ 8) :
    Calls Try.prog 85 #[.slice A n c] w fun e w' => e = .returned (.int .u64 (z : Int)) ∧ w = w' := by
  subst hn; subst hz
  refine (rget1_any A c l w h hl).mono ?_
  rintro e w' ⟨rfl, rfl⟩
  exact ⟨rfl, rfl⟩
/-- What holds ahead of an entry. -/
structure Est (w : World) (b : List UInt8) (n at_ i : Nat) (es : List En) (A : Option Addr) (c : Nat) (wr : World) : Prop where
  eq : entsQ b = runQ (n - i) (es.map En.ent) (b.drop at_)
  len : es.length = i
  fit : ∀ e ∈ es, e.key.2.2.length ≤ 1000 ∧ e.value.2.2.length ≤ 65536 ∧ isI64 e.seq
  sat : Sat w (Row 34 4 (.slice A es.length c) es.length (es.flatMap enV) * (OwnE es * Emp)) wr
set_option maxRecDepth 1000000 in
set_option maxHeartbeats 8000000 in
theorem rents_any (A : Option Addr) (c : Nat) (b : List UInt8) (w : World) (h : Rd w A b) (hc : b.length ≤ c) (hm : c ≤ maxLen) (hbl : b.length ≤ 100000000) :
    Calls Try.prog 37 #[.slice A b.length c] w (REnt b w) := by
  have HR := Lib.hid h
  have HM := Lib.hid hm
  unfold maxLen at hm
  clear h
  by_cases h4 : b.length < 4
  · have HE : Hid (openE b = 72) := openE_sum (by unfold sumOk; rw [decide_eq_false (by omega)]; rfl)
    have hi4 : (b.length : Int) < 4 := by omega
    clear h4
    go_enter Try.func37, Try.ntmps37
    go_wp2_with fail
    go_quiet (fail)
    go_wp2_with fail
    go_ret2
    exact REnt.no HE.out (by decide) rfl ((Chg.refl No w).drewN _)
  · obtain ⟨m, hm9⟩ : ∃ m, m = b.length - 4 := ⟨_, rfl⟩
    have hsub : (b.length : Int) - 4 = (m : Int) := by omega
    have hmc : m ≤ c := by omega
    have hml : m ≤ b.length := by omega
    have hwm : IntKind.i64.wrap (m : Int) = m := by rw [IntKind.wrap_i64]; omega
    have hm0 : (0 : Int) ≤ m := by omega
    have hmci : (m : Int) ≤ c := by omega
    have hmbi : (m : Int) ≤ b.length := by omega
    obtain ⟨sm, hsm⟩ : ∃ sm, sumB (b.take m) = sm := ⟨_, rfl⟩
    have hsm0 : sm < 4294967296 := by rw [← hsm]; exact sumB_lt _
    have hwsm : IntKind.i64.wrap (sm : Int) = sm := by rw [IntKind.wrap_i64]; omega
    have n4 : Hid (sm < 9223372036854775808) := by unfold Hid; omega
    obtain ⟨P, hP⟩ : ∃ P, putB sm 4 = P := ⟨_, rfl⟩
    obtain ⟨SA, SB, T, e1, e2, e3, e4⟩ := str_two P (b.drop m)
    have HT : Hid (sumOk b = T) := by
      unfold Hid sumOk
      rw [e4, decide_eq_true (by omega), Bool.true_and, ← hm9, hsm, hP]
    have hdl : (b.drop m).length = 4 := by rw [List.length_drop]; omega
    have HS2 : Hid (∀ W, Rd W A b → (convert 32 9 (.slice (if c = m then A else Option.map (fun x => x.add m) A) (b.length - m) (c - m))).run Try.prog W = .ok (.string SB) W) := fun W hW => by
      rw [e2]
      have h9 := str_any (Rd.drop hW hml hc) (c - m)
      rw [List.length_drop] at h9
      exact h9
    have HS1 : Hid (∀ W (A9 : Option Addr) (c9 : Nat), Rd W A9 P → (convert 32 9 (.slice A9 P.length c9)).run Try.prog W = .ok (.string SA) W) := fun W A9 c9 hW => by
      rw [e1]
      exact str_any hW c9
    have HTk : Hid (Rd w A (b.take m)) := HR.out.take m
    have HTl : Hid ((b.take m).length = m) := by unfold Hid; rw [List.length_take]; omega
    have HSm := Lib.hid hsm; have HP := Lib.hid hP
    have hi4 : ¬ (b.length : Int) < 4 := by omega
    have HSt := Lib.hid (Sat.start w)
    have hm140 : Hid ((b.take m).length ≤ 140737488355328) := by unfold Hid; rw [HTl.out]; omega
    have HS0 : Hid (∀ _ : World, Calls Try.prog 77 #[.slice A m c] w.drew fun x w' => x = .returned (.int .u32 (sm : Int)) ∧ w.drew = w') := fun _ => by
      have h9 := rsum1_any A c (b.take m) w.drew (HTk.out.new (Chg.refl No w).drew) hm140.out
      rw [HTl.out, HSm.out] at h9
      exact h9.mono fun x w' ⟨h1, h2⟩ => ⟨h1, h2.symm⟩
    clear e1 e2 e4 hm9 hsm hsm0 hP hdl h4
    go_enter Try.func37, Try.ntmps37
    go_upto_region 1 with fail
    refine wp_region_held_drew (S := fun w' => Rd w' A b ∧ (convert 32 9 (.slice (if c = m then A else Option.map (fun x => x.add m) A) (b.length - m) (c - m))).run Try.prog w' = .ok (.string SB) w') (by kernel_rfl) ⟨HR.out.new (Chg.refl No w).drew, HS2.out _ (HR.out.new (Chg.refl No w).drew)⟩ ?_
    intro hS0
    refine rgn_take (i := 0) (v := ?rv1) rfl (by kernel_rfl) (by kernel_rfl) (by kernel_rfl) (fun _ _ _ h => h) (by rfl) ?rh1 (by assumption) ?rr1
    case rh1 => (intro w hSw; (try dsimp only at hSw); go_simp; try with_reducible rfl)
    simp only [Act.put, List.setIfInBounds_toArray, List.set_cons_zero, List.set_cons_succ]
    refine rgn_take (i := 1) (v := ?rv2) rfl (by kernel_rfl) (by kernel_rfl) (by kernel_rfl) (fun _ _ _ h => h) (by rfl) ?rh2 (by assumption) ?rr2
    case rh2 => (intro w hSw; (try dsimp only at hSw); go_simp; try with_reducible rfl)
    simp only [Act.put, List.setIfInBounds_toArray, List.set_cons_zero, List.set_cons_succ]
    refine rgn_take (i := 2) (v := ?rv3) rfl (by kernel_rfl) (by kernel_rfl) (by kernel_rfl) (fun _ _ _ h => h) (by rfl) ?rh3 (by assumption) ?rr3
    case rh3 => (intro w hSw; (try dsimp only at hSw); go_simp; try with_reducible rfl)
    simp only [Act.put, List.setIfInBounds_toArray, List.set_cons_zero, List.set_cons_succ]
    refine rgn_take (i := 3) (v := ?rv4) rfl (by kernel_rfl) (by kernel_rfl) (by kernel_rfl) (fun _ _ _ h => h) (by rfl) ?rh4 (by assumption) ?rr4
    case rh4 => (intro w hSw; (try dsimp only at hSw); go_simp; try with_reducible rfl)
    simp only [Act.put, List.setIfInBounds_toArray, List.set_cons_zero, List.set_cons_succ]
    refine rgn_take (i := 4) (v := ?rv5) rfl (by kernel_rfl) (by kernel_rfl) (by kernel_rfl) (fun _ _ _ h => h) (by rfl) ?rh5 (by assumption) ?rr5
    case rh5 => (intro w hSw; (try dsimp only at hSw); go_simp; try with_reducible rfl)
    simp only [Act.put, List.setIfInBounds_toArray, List.set_cons_zero, List.set_cons_succ]
    refine rgn_take (i := 5) (v := ?rv6) rfl (by kernel_rfl) (by kernel_rfl) (by kernel_rfl) (fun _ _ _ h => h) (by rfl) ?rh6 (by assumption) ?rr6
    case rh6 => (intro w hSw; (try dsimp only at hSw); go_simp; try with_reducible rfl)
    simp only [Act.put, List.setIfInBounds_toArray, List.set_cons_zero, List.set_cons_succ]
    refine rgn_take (i := 6) (v := ?rv7) rfl (by kernel_rfl) (by kernel_rfl) (by kernel_rfl) (fun _ _ _ h => h) (by rfl) ?rh7 (by assumption) ?rr7
    case rh7 => (intro w hSw; (try dsimp only at hSw); go_simp; try with_reducible rfl)
    simp only [Act.put, List.setIfInBounds_toArray, List.set_cons_zero, List.set_cons_succ]
    refine rgn_take (i := 7) (v := ?rv8) rfl (by kernel_rfl) (by kernel_rfl) (by kernel_rfl) (fun _ _ _ h => h) (by rfl) ?rh8 (by assumption) ?rr8
    case rh8 => (intro w hSw; (try dsimp only at hSw); go_simp; try with_reducible rfl)
    simp only [Act.put, List.setIfInBounds_toArray, List.set_cons_zero, List.set_cons_succ]
    refine rgn_take (i := 8) (v := ?rv9) rfl (by kernel_rfl) (by kernel_rfl) (by kernel_rfl) (fun _ _ _ h => h) (by rfl) ?rh9 (by assumption) ?rr9
    case rh9 => (intro w hSw; (try dsimp only at hSw); go_simp; try with_reducible rfl)
    simp only [Act.put, List.setIfInBounds_toArray, List.set_cons_zero, List.set_cons_succ]
    refine rgn_take (i := 13) (v := ?rv10) rfl (by kernel_rfl) (by kernel_rfl) (by kernel_rfl) (fun _ _ _ h => h) (by rfl) ?rh10 (by assumption) ?rr10
    case rh10 => (intro w hSw; (try dsimp only at hSw); go_simp; try with_reducible rfl)
    simp only [Act.put, List.setIfInBounds_toArray, List.set_cons_zero, List.set_cons_succ]
    refine rgn_take (i := 14) (v := ?rv11) rfl (by kernel_rfl) (by kernel_rfl) (by kernel_rfl) (fun _ _ _ h => h) (by rfl) ?rh11 (by assumption) ?rr11
    case rh11 => (intro w hSw; (try dsimp only at hSw); go_simp; try with_reducible rfl)
    simp only [Act.put, List.setIfInBounds_toArray, List.set_cons_zero, List.set_cons_succ]
    refine rgn_take (i := 15) (v := ?rv12) rfl (by kernel_rfl) (by kernel_rfl) (by kernel_rfl) (fun _ _ _ h => h) (by rfl) ?rh12 (by assumption) ?rr12
    case rh12 => (intro w hSw; (try dsimp only at hSw); go_simp; try with_reducible rfl)
    simp only [Act.put, List.setIfInBounds_toArray, List.set_cons_zero, List.set_cons_succ]
    refine rgn_take (i := 16) (v := ?rv13) rfl (by kernel_rfl) (by kernel_rfl) (by kernel_rfl) (fun _ _ _ h => h) (by rfl) ?rh13 (by assumption) ?rr13
    case rh13 => (intro w hSw; (try dsimp only at hSw); go_simp; try with_reducible rfl)
    simp only [Act.put, List.setIfInBounds_toArray, List.set_cons_zero, List.set_cons_succ]
    refine rgn_take (i := 17) (v := ?rv14) rfl (by kernel_rfl) (by kernel_rfl) (by kernel_rfl) (fun _ _ _ h => h) (by rfl) ?rh14 (by assumption) ?rr14
    case rh14 => (intro w hSw; (try dsimp only at hSw); go_simp; try with_reducible rfl)
    simp only [Act.put, List.setIfInBounds_toArray, List.set_cons_zero, List.set_cons_succ]
    refine rgn_take (i := 18) (v := ?rv15) rfl (by kernel_rfl) (by kernel_rfl) (by kernel_rfl) (fun _ _ _ h => h) (by rfl) ?rh15 (by assumption) ?rr15
    case rh15 => (intro w hSw; (try dsimp only at hSw); go_simp; try with_reducible rfl)
    simp only [Act.put, List.setIfInBounds_toArray, List.set_cons_zero, List.set_cons_succ]
    refine rgn_call (i := 9) rfl (by kernel_rfl) (fun K hK => ?_)
    go_simp
    go_at_call 77; refine (HS0.out w).mono ?_; rintro x w9 ⟨rfl, rfl⟩
    refine hK.out _ _ ⟨HR.out.new (Chg.refl No w).drew, HS2.out _ (HR.out.new (Chg.refl No w).drew)⟩ (fun hS0 => ?_)
    clear hK K
    refine rgn_take (i := 10) (v := ?rv17) rfl (by kernel_rfl) (by kernel_rfl) (by kernel_rfl) (fun _ _ _ h => h) (by rfl) ?rh17 (by assumption) ?rr17
    case rh17 => (intro w hSw; (try dsimp only at hSw); go_simp; try with_reducible rfl)
    simp only [Act.put, List.setIfInBounds_toArray, List.set_cons_zero, List.set_cons_succ]
    refine rgn_call (i := 11) rfl (by kernel_rfl) (fun K hK => ?_)
    go_simp
    go_at_call 74; refine (rnumS sm 4 4 rfl n4.out (by omega) (by omega) w _ _ HSt.out.drew P HP.out).mono ?_; rintro x w11 ⟨A11, c11, rfl, hs11⟩; have s1 := HS1.out w11 A11 c11 hs11.row_rdK; have HC11 := Lib.hid hs11.chg; clear hs11
    refine hK.out _ _ ⟨HR.out.new HC11.out, HS2.out _ (HR.out.new HC11.out)⟩ (fun hS0 => ?_)
    clear hK K
    refine rgn_call (i := 12) rfl (by kernel_rfl) (fun K hK => ?_)
    go_simp
    refine hK.out _ _ ⟨HR.out.new HC11.out, HS2.out _ (HR.out.new HC11.out)⟩ (fun hS0 => ?_)
    clear hK K
    refine rgn_take (i := 19) (v := ?rv20) rfl (by kernel_rfl) (by kernel_rfl) (by kernel_rfl) (fun _ _ _ h => h) (by rfl) ?rh20 (by assumption) ?rr20
    case rh20 => (intro w hSw; (try dsimp only at hSw); go_simp; try with_reducible rfl)
    simp only [Act.put, List.setIfInBounds_toArray, List.set_cons_zero, List.set_cons_succ]
    refine rgn_take (i := 20) (v := ?rv21) rfl (by kernel_rfl) (by kernel_rfl) (by kernel_rfl) (fun _ _ _ h => h) (by rfl) ?rh21 (by assumption) ?rr21
    case rh21 => (intro w hSw; (try dsimp only at hSw); go_simp; try with_reducible rfl)
    simp only [Act.put, List.setIfInBounds_toArray, List.set_cons_zero, List.set_cons_succ]
    refine wpAnyH_done (by kernel_rfl) ?_ _
    clear hS0 s1
    generalize (if c = m then A else Option.map (fun x => x.add m) A) = Bm
    cases T
    · have HE : Hid (openE b = 72) := openE_sum HT.out
      go_wp2_with fail
      go_ret2
      exact REnt.no HE.out (by decide) rfl HC11.out
    · clear e3
      by_cases h8 : b.length < 8
      · have HE : Hid (openE b = 73) := ents_no HT.out (fun l hl => by unfold entsQ at hl; rw [if_pos h8] at hl; cases hl)
        have hi8 : (b.length : Int) < 8 := by omega
        clear h8
        go_wp2_with fail
        go_ret2
        exact REnt.no HE.out (by decide) rfl HC11.out
      · have hi8 : ¬ (b.length : Int) < 8 := by omega
        obtain ⟨n, hn⟩ : ∃ n, getN ((b.drop 4).take 4) = n := ⟨_, rfl⟩
        have hl44 : ((b.drop 4).take 4).length = 4 := by rw [List.length_take, List.length_drop]; omega
        have hn32 : n < 4294967296 := by
          have h9 := getN_lt ((b.drop 4).take 4)
          rw [hl44, hn] at h9
          exact h9
        have HQ0 : Hid (entsQ b = runQ n [] (b.drop 8)) := by unfold Hid entsQ; rw [if_neg h8, hn]
        have hwn : IntKind.i64.wrap (n : Int) = n := by rw [IntKind.wrap_i64]; omega
        have hc4 : ¬ c = 4 := by omega
        have h4c : (4 : Int) ≤ c := by omega
        have h8c : (8 : Int) ≤ c := by omega
        have HR4 : Hid (Rd w (A.map (·.add 4)) ((b.drop 4).take 4)) := by
          have h9 := Rd.drop (k := 4) (cap := c) HR.out (by omega) hc
          rw [if_neg hc4] at h9
          exact h9.take 4
        have HN := Lib.hid hn; have Hl44 := Lib.hid hl44
        clear hn hl44
        go_upto_region 6 with (go_at_call 85; refine (rget_n (A.map (·.add 4)) (c - 4) ((b.drop 4).take 4) 4 Hl44.out.symm n HN.out w11 (HR4.out.new HC11.out) (by rw [Hl44.out]; omega)).mono ?_; rintro x wx ⟨rfl, rfl⟩)
        obtain ⟨g0, o0, rfl, hcell⟩ := HR.out (by intro e; have h9 := congrArg List.length e; simp at h9; rw [h9] at h8; exact h8 (by simp))
        have HCell : Hid (∀ j (h : j < b.length), w.cell? ⟨g0, o0 + j, none⟩ = some (.int .u8 (b[j].toNat : Int))) := fun j hj => by
          have h9 := hcell j (by simpa using hj)
          simpa [bv] using h9
        clear hcell HR4 HS2 HS1 HTk HSt HS0 hsub hwm hm0 hmci hmbi n4 hwsm
        go_wp2_with fail
        go_loopw [5, 6, 7] (fun av lv iv wr => ∃ (at_ i : Nat) (es : List En) (A6 : Option Addr) (c6 : Nat), at_ ≤ b.length ∧ i ≤ n ∧ 13 * i ≤ at_ ∧ av = .int .i64 (at_ : Int) ∧ iv = .int .i64 (i : Int) ∧ lv = .slice A6 es.length c6 ∧ Hid (Est w b n at_ i es A6 c6 wr)) (fun _ _ iv _ => n - (intOf iv).toNat)
        case atStart => exact ⟨8, 0, [], none, 0, by omega, by omega, by omega, rfl, rfl, rfl, HQ0.out, rfl, by simp, (((Sat.start w).new HC11.out).row_nil _ 4).of (by rw [show OwnE [] = Emp from rfl, emp_star]; rfl)⟩
        case round =>
          obtain ⟨at_, i, es, A6, c6, hat, hin, h13, rfl, rfl, rfl, HD⟩ := hrel
          obtain ⟨i0, hi0', hz0', hz1', hz2'⟩ := info_parts info_entryT
          have hi0 := Lib.hid hi0'; have hz0 := Lib.hid hz0'; have hz1 := Lib.hid hz1'; have hz2 := Lib.hid hz2'
          clear hi0' hz0' hz1' hz2'
          by_cases hlt : i < n
          · obtain ⟨k, hk⟩ : ∃ k, n - i = k + 1 := ⟨n - i - 1, by omega⟩
            have HEq : Hid (entsQ b = runQ (k + 1) (es.map En.ent) (b.drop at_)) := by unfold Hid; rw [← hk]; exact HD.out.eq
            by_cases h13b : b.length - at_ < 13
            · have HE : Hid (openE b = 73) := ents_no HT.out (fun l hl => by
                rw [HEq.out, runQ_none (by unfold stepQ; rw [List.length_drop, if_pos h13b])] at hl
                cases hl)
              have hi13 : (b.length : Int) - at_ < 13 := by omega
              clear h13b
              go_wp2_with fail
              go_ret2
              exact REnt.no HE.out (by decide) rfl HD.out.sat.chg
            · have hi13 : ¬ (b.length : Int) - at_ < 13 := by omega
              have hb13 : at_ + 13 ≤ b.length := by omega
              obtain ⟨q, hq⟩ : ∃ q, b.drop at_ = q := ⟨_, rfl⟩
              have hql : q.length = b.length - at_ := by rw [← hq, List.length_drop]
              have hbd : ∀ j (h : at_ + j < b.length), q.getD j 0 = b[at_ + j] := fun j h => by
                rw [← hq, List.getD_eq_getElem?_getD, List.getElem?_drop, List.getElem?_eq_getElem h]
                rfl
              obtain ⟨x0, hx0⟩ : ∃ x, q.getD 0 0 = x := ⟨_, rfl⟩
              obtain ⟨x1, hx1⟩ : ∃ x, q.getD 1 0 = x := ⟨_, rfl⟩
              obtain ⟨x10, hx10⟩ : ∃ x, q.getD 10 0 = x := ⟨_, rfl⟩
              have hwx0 : IntKind.i64.wrap (x0.toNat : Int) = x0.toNat := by have := x0.toNat_lt; rw [IntKind.wrap_i64]; omega
              have hwx1 : IntKind.i64.wrap (x1.toNat : Int) = x1.toNat := by have := x1.toNat_lt; rw [IntKind.wrap_i64]; omega
              obtain ⟨sz, hsz⟩ : ∃ z, getN ((q.drop 11).take 2) = z := ⟨_, rfl⟩
              obtain ⟨sq, hsq⟩ : ∃ z, getN ((q.drop 2).take 8) = z := ⟨_, rfl⟩
              obtain ⟨si, hsi⟩ : ∃ z, IntKind.i64.wrap (sq : Int) = z := ⟨_, rfl⟩
              obtain ⟨D, hD⟩ : ∃ D, decide (x10 = 1) = D := ⟨_, rfl⟩
              have hD2 : ((x10.toNat : Int) == 1) = D := by
                rw [← hD]
                by_cases e : x10 = 1
                · rw [e]; rfl
                · rw [decide_eq_false e, beq_eq_false_iff_ne]
                  intro e2
                  exact e (UInt8.toNat.inj (by have h9 : ((1 : UInt8).toNat : Int) = 1 := rfl; omega))
              obtain ⟨p1, hp1⟩ : ∃ p, p = at_ + 1 := ⟨_, rfl⟩
              have e1 : (at_ : Int) + 1 = (p1 : Int) := by omega
              have w1 : IntKind.i64.wrap (p1 : Int) = p1 := by rw [IntKind.wrap_i64]; omega
              have z1 : (0 : Int) ≤ p1 := by omega
              have i1 : (p1 : Int) < b.length := by omega
              have j1 : (p1 : Int) ≤ c := by omega
              have n1 : ¬ c = p1 := by omega
              obtain ⟨p2, hp2⟩ : ∃ p, p = at_ + 2 := ⟨_, rfl⟩
              have e2 : (at_ : Int) + 2 = (p2 : Int) := by omega
              have w2 : IntKind.i64.wrap (p2 : Int) = p2 := by rw [IntKind.wrap_i64]; omega
              have z2 : (0 : Int) ≤ p2 := by omega
              have i2 : (p2 : Int) < b.length := by omega
              have j2 : (p2 : Int) ≤ c := by omega
              have n2 : ¬ c = p2 := by omega
              obtain ⟨p10, hp10⟩ : ∃ p, p = at_ + 10 := ⟨_, rfl⟩
              have e10 : (at_ : Int) + 10 = (p10 : Int) := by omega
              have w10 : IntKind.i64.wrap (p10 : Int) = p10 := by rw [IntKind.wrap_i64]; omega
              have z10 : (0 : Int) ≤ p10 := by omega
              have i10 : (p10 : Int) < b.length := by omega
              have j10 : (p10 : Int) ≤ c := by omega
              have n10 : ¬ c = p10 := by omega
              obtain ⟨p11, hp11⟩ : ∃ p, p = at_ + 11 := ⟨_, rfl⟩
              have e11 : (at_ : Int) + 11 = (p11 : Int) := by omega
              have w11 : IntKind.i64.wrap (p11 : Int) = p11 := by rw [IntKind.wrap_i64]; omega
              have z11 : (0 : Int) ≤ p11 := by omega
              have i11 : (p11 : Int) < b.length := by omega
              have j11 : (p11 : Int) ≤ c := by omega
              have n11 : ¬ c = p11 := by omega
              obtain ⟨p13, hp13⟩ : ∃ p, p = at_ + 13 := ⟨_, rfl⟩
              have e13 : (at_ : Int) + 13 = (p13 : Int) := by omega
              have w13 : IntKind.i64.wrap (p13 : Int) = p13 := by rw [IntKind.wrap_i64]; omega
              have z13 : (0 : Int) ≤ p13 := by omega
              have i13 : (p13 : Int) ≤ b.length := by omega
              have j13 : (p13 : Int) ≤ c := by omega
              have n13 : p13 ≤ c := by omega
              have wat : IntKind.i64.wrap (at_ : Int) = at_ := by rw [IntKind.wrap_i64]; omega
              have zat : (0 : Int) ≤ at_ := by omega
              have iat : (at_ : Int) < b.length := by omega
              have d2 : p13 - p11 = 2 := by omega
              have d8 : p10 - p2 = 8 := by omega
              have le1 : (p11 : Int) ≤ p13 := by omega
              have le2 : (p2 : Int) ≤ p10 := by omega
              have hl2 : ((b.drop p11).take 2).length = 2 := by rw [List.length_take, List.length_drop]; omega
              have hl8 : ((b.drop p2).take 8).length = 8 := by rw [List.length_take, List.length_drop]; omega
              have hd11 : b.drop p11 = q.drop 11 := by rw [← hq, List.drop_drop, hp11]
              have hd2 : b.drop p2 = q.drop 2 := by rw [← hq, List.drop_drop, hp2]
              have hd13 : b.drop p13 = q.drop 13 := by rw [← hq, List.drop_drop, hp13]
              have hszl : sz < 65536 := by
                have h9 := getN_lt ((q.drop 11).take 2)
                rw [← hd11, hl2, hd11, hsz] at h9
                exact h9
              have hwsz : IntKind.i64.wrap (sz : Int) = sz := by rw [IntKind.wrap_i64]; omega
              have HR11 : Hid (Rd w (some ⟨g0, o0 + p11, none⟩) ((b.drop p11).take 2)) := by
                have h9 := Rd.drop (k := p11) (cap := c) HR.out (by omega) hc
                rw [if_neg n11, Option.map_some, Addr.add_lit] at h9
                exact h9.take 2
              have HR2 : Hid (Rd w (some ⟨g0, o0 + p2, none⟩) ((b.drop p2).take 8)) := by
                have h9 := Rd.drop (k := p2) (cap := c) HR.out (by omega) hc
                rw [if_neg n2, Option.map_some, Addr.add_lit] at h9
                exact h9.take 8
              have HR13 : Hid (∀ r, Rd w (some ⟨g0, o0 + p13, none⟩) ((b.drop p13).take r) ∨ True) := fun _ => .inr trivial
              have C0 : Hid (w.cell? ⟨g0, o0 + at_, none⟩ = some (.int .u8 (x0.toNat : Int))) := by have h9 := HCell.out at_ (by omega); rw [← hx0, hbd 0 (by omega)]; exact h9
              have C1 : Hid (w.cell? ⟨g0, o0 + p1, none⟩ = some (.int .u8 (x1.toNat : Int))) := by subst hp1; rw [← hx1, hbd 1 (by omega)]; exact HCell.out (at_ + 1) (by omega)
              have C10 : Hid (w.cell? ⟨g0, o0 + p10, none⟩ = some (.int .u8 (x10.toNat : Int))) := by subst hp10; rw [← hx10, hbd 10 (by omega)]; exact HCell.out (at_ + 10) (by omega)
              have HSz : Hid (getN ((b.drop p11).take 2) = sz) := by unfold Hid; rw [hd11]; exact hsz
              have HSq : Hid (getN ((b.drop p2).take 8) = sq) := by unfold Hid; rw [hd2]; exact hsq
              have Hl2 := Lib.hid hl2; have Hl8 := Lib.hid hl8
              have HX := Lib.hid (And.intro hx0 (And.intro hx1 (And.intro hx10 (And.intro hsz (And.intro hsq (And.intro hsi hD))))))
              have HQ := Lib.hid (And.intro hq (And.intro hql (And.intro hd13 hp13)))
              clear hx0 hx1 hx10 hsz hsq hD hl2 hl8 hd11 hd2 hd13 hq hql hbd hp1 hp2 hp10 hp11 hp13 h13b
              go_upto_region 13 with fail
              refine wp_region_held_drew (S := fun w' => w'.cell? ⟨g0, o0 + at_, none⟩ = some (.int .u8 (x0.toNat : Int)) ∧ w'.cell? ⟨g0, o0 + p1, none⟩ = some (.int .u8 (x1.toNat : Int))) (by kernel_rfl) ⟨HD.out.sat.chg.cell C0.out id, HD.out.sat.chg.cell C1.out id⟩ ?_
              intro hS0
              refine rgn_take (i := 0) (v := ?rv22) rfl (by kernel_rfl) (by kernel_rfl) (by kernel_rfl) (fun _ _ _ h => h) (by rfl) ?rh22 (by assumption) ?rr22
              case rh22 => (intro w hSw; (try dsimp only at hSw); go_simp; try with_reducible rfl)
              simp only [Act.put, List.setIfInBounds_toArray, List.set_cons_zero, List.set_cons_succ]
              refine rgn_take (i := 1) (v := ?rv23) rfl (by kernel_rfl) (by kernel_rfl) (by kernel_rfl) (fun _ _ _ h => h) (by rfl) ?rh23 (by assumption) ?rr23
              case rh23 => (intro w hSw; (try dsimp only at hSw); go_simp; try with_reducible rfl)
              simp only [Act.put, List.setIfInBounds_toArray, List.set_cons_zero, List.set_cons_succ]
              refine rgn_take (i := 2) (v := ?rv24) rfl (by kernel_rfl) (by kernel_rfl) (by kernel_rfl) (fun _ _ _ h => h) (by rfl) ?rh24 (by assumption) ?rr24
              case rh24 => (intro w hSw; (try dsimp only at hSw); go_simp; try with_reducible rfl)
              simp only [Act.put, List.setIfInBounds_toArray, List.set_cons_zero, List.set_cons_succ]
              refine rgn_take (i := 3) (v := ?rv25) rfl (by kernel_rfl) (by kernel_rfl) (by kernel_rfl) (fun _ _ _ h => h) (by rfl) ?rh25 (by assumption) ?rr25
              case rh25 => (intro w hSw; (try dsimp only at hSw); go_simp; try with_reducible rfl)
              simp only [Act.put, List.setIfInBounds_toArray, List.set_cons_zero, List.set_cons_succ]
              refine rgn_take (i := 4) (v := ?rv26) rfl (by kernel_rfl) (by kernel_rfl) (by kernel_rfl) (fun _ _ _ h => h) (by rfl) ?rh26 (by assumption) ?rr26
              case rh26 => (intro w hSw; (try dsimp only at hSw); go_simp; try with_reducible rfl)
              simp only [Act.put, List.setIfInBounds_toArray, List.set_cons_zero, List.set_cons_succ]
              refine rgn_take (i := 5) (v := ?rv27) rfl (by kernel_rfl) (by kernel_rfl) (by kernel_rfl) (fun _ _ _ h => h) (by rfl) ?rh27 (by assumption) ?rr27
              case rh27 => (intro w hSw; (try dsimp only at hSw); go_simp; try with_reducible rfl)
              simp only [Act.put, List.setIfInBounds_toArray, List.set_cons_zero, List.set_cons_succ]
              refine rgn_take (i := 6) (v := ?rv28) rfl (by kernel_rfl) (by kernel_rfl) (by kernel_rfl) (fun _ _ _ h => h) (by rfl) ?rh28 (by assumption) ?rr28
              case rh28 => (intro w hSw; (try dsimp only at hSw); go_simp; try with_reducible rfl)
              simp only [Act.put, List.setIfInBounds_toArray, List.set_cons_zero, List.set_cons_succ]
              refine rgn_take (i := 7) (v := ?rv29) rfl (by kernel_rfl) (by kernel_rfl) (by kernel_rfl) (fun _ _ _ h => h) (by rfl) ?rh29 (by assumption) ?rr29
              case rh29 => (intro w hSw; (try dsimp only at hSw); go_simp; try with_reducible rfl)
              simp only [Act.put, List.setIfInBounds_toArray, List.set_cons_zero, List.set_cons_succ]
              refine rgn_take (i := 8) (v := ?rv30) rfl (by kernel_rfl) (by kernel_rfl) (by kernel_rfl) (fun _ _ _ h => h) (by rfl) ?rh30 (by assumption) ?rr30
              case rh30 => (intro w hSw; (try dsimp only at hSw); go_simp; try with_reducible rfl)
              simp only [Act.put, List.setIfInBounds_toArray, List.set_cons_zero, List.set_cons_succ]
              refine rgn_take (i := 9) (v := ?rv31) rfl (by kernel_rfl) (by kernel_rfl) (by kernel_rfl) (fun _ _ _ h => h) (by rfl) ?rh31 (by assumption) ?rr31
              case rh31 => (intro w hSw; (try dsimp only at hSw); go_simp; try with_reducible rfl)
              simp only [Act.put, List.setIfInBounds_toArray, List.set_cons_zero, List.set_cons_succ]
              refine rgn_take (i := 10) (v := ?rv32) rfl (by kernel_rfl) (by kernel_rfl) (by kernel_rfl) (fun _ _ _ h => h) (by rfl) ?rh32 (by assumption) ?rr32
              case rh32 => (intro w hSw; (try dsimp only at hSw); go_simp; try with_reducible rfl)
              simp only [Act.put, List.setIfInBounds_toArray, List.set_cons_zero, List.set_cons_succ]
              refine rgn_take (i := 11) (v := ?rv33) rfl (by kernel_rfl) (by kernel_rfl) (by kernel_rfl) (fun _ _ _ h => h) (by rfl) ?rh33 (by assumption) ?rr33
              case rh33 => (intro w hSw; (try dsimp only at hSw); go_simp; try with_reducible rfl)
              simp only [Act.put, List.setIfInBounds_toArray, List.set_cons_zero, List.set_cons_succ]
              refine rgn_take (i := 12) (v := ?rv34) rfl (by kernel_rfl) (by kernel_rfl) (by kernel_rfl) (fun _ _ _ h => h) (by rfl) ?rh34 (by assumption) ?rr34
              case rh34 => (intro w hSw; (try dsimp only at hSw); go_simp; try with_reducible rfl)
              simp only [Act.put, List.setIfInBounds_toArray, List.set_cons_zero, List.set_cons_succ]
              refine rgn_take (i := 13) (v := ?rv35) rfl (by kernel_rfl) (by kernel_rfl) (by kernel_rfl) (fun _ _ _ h => h) (by rfl) ?rh35 (by assumption) ?rr35
              case rh35 => (intro w hSw; (try dsimp only at hSw); go_simp; try with_reducible rfl)
              simp only [Act.put, List.setIfInBounds_toArray, List.set_cons_zero, List.set_cons_succ]
              refine rgn_take (i := 14) (v := ?rv36) rfl (by kernel_rfl) (by kernel_rfl) (by kernel_rfl) (fun _ _ _ h => h) (by rfl) ?rh36 (by assumption) ?rr36
              case rh36 => (intro w hSw; (try dsimp only at hSw); go_simp; try with_reducible rfl)
              simp only [Act.put, List.setIfInBounds_toArray, List.set_cons_zero, List.set_cons_succ]
              refine rgn_take (i := 15) (v := ?rv37) rfl (by kernel_rfl) (by kernel_rfl) (by kernel_rfl) (fun _ _ _ h => h) (by rfl) ?rh37 (by assumption) ?rr37
              case rh37 => (intro w hSw; (try dsimp only at hSw); go_simp; try with_reducible rfl)
              simp only [Act.put, List.setIfInBounds_toArray, List.set_cons_zero, List.set_cons_succ]
              refine rgn_take (i := 16) (v := ?rv38) rfl (by kernel_rfl) (by kernel_rfl) (by kernel_rfl) (fun _ _ _ h => h) (by rfl) ?rh38 (by assumption) ?rr38
              case rh38 => (intro w hSw; (try dsimp only at hSw); go_simp; try with_reducible rfl)
              simp only [Act.put, List.setIfInBounds_toArray, List.set_cons_zero, List.set_cons_succ]
              refine rgn_call (i := 17) rfl (by kernel_rfl) (fun K hK => ?_)
              go_simp
              go_at_call 85; refine (rget_n (some ⟨g0, o0 + p11, none⟩) (c - p11) ((b.drop p11).take 2) 2 Hl2.out.symm sz HSz.out wr.drew (HR11.out.new HD.out.sat.chg.drew) (by rw [Hl2.out]; omega)).mono ?_; rintro x wy ⟨rfl, rfl⟩
              refine hK.out _ _ ⟨HD.out.sat.chg.cell C0.out id, HD.out.sat.chg.cell C1.out id⟩ (fun hS0 => ?_)
              clear hK K
              refine rgn_take (i := 18) (v := ?rv40) rfl (by kernel_rfl) (by kernel_rfl) (by kernel_rfl) (fun _ _ _ h => h) (by rfl) ?rh40 (by assumption) ?rr40
              case rh40 => (intro w hSw; (try dsimp only at hSw); go_simp; try with_reducible rfl)
              simp only [Act.put, List.setIfInBounds_toArray, List.set_cons_zero, List.set_cons_succ]
              refine rgn_take (i := 19) (v := ?rv41) rfl (by kernel_rfl) (by kernel_rfl) (by kernel_rfl) (fun _ _ _ h => h) (by rfl) ?rh41 (by assumption) ?rr41
              case rh41 => (intro w hSw; (try dsimp only at hSw); go_simp; try with_reducible rfl)
              simp only [Act.put, List.setIfInBounds_toArray, List.set_cons_zero, List.set_cons_succ]
              refine rgn_take (i := 20) (v := ?rv42) rfl (by kernel_rfl) (by kernel_rfl) (by kernel_rfl) (fun _ _ _ h => h) (by rfl) ?rh42 (by assumption) ?rr42
              case rh42 => (intro w hSw; (try dsimp only at hSw); go_simp; try with_reducible rfl)
              simp only [Act.put, List.setIfInBounds_toArray, List.set_cons_zero, List.set_cons_succ]
              refine rgn_take (i := 21) (v := ?rv43) rfl (by kernel_rfl) (by kernel_rfl) (by kernel_rfl) (fun _ _ _ h => h) (by rfl) ?rh43 (by assumption) ?rr43
              case rh43 => (intro w hSw; (try dsimp only at hSw); go_simp; try with_reducible rfl)
              simp only [Act.put, List.setIfInBounds_toArray, List.set_cons_zero, List.set_cons_succ]
              refine wpAnyH_done (by kernel_rfl) ?_ _
              go_upto_region 14 with fail
              go_cut [11] (fun ev wx => ∃ E : Nat, ev = .pointer (some ⟨E, 0, none⟩) ∧ Hid (Sat w (Pt E 34 #[.slice none 0 0, .slice none 0 0, .int .i64 si, .bool D] * (Row 34 4 (.slice A6 es.length c6) es.length (es.flatMap enV) * (OwnE es * Emp))) wx))
              case first =>
                obtain ⟨wd, hwd⟩ : ∃ wd, wd = wr.drew.drew := ⟨_, rfl⟩
                have HS : Hid (Sat w (Row 34 4 (.slice A6 es.length c6) es.length (es.flatMap enV) * (OwnE es * Emp)) wd) := by rw [hwd]; exact HD.out.sat.drew.drew
                refine wp_region_held_drew (S := fun w' => w'.cell? ⟨g0, o0 + p10, none⟩ = some (.int .u8 (x10.toNat : Int))) (by kernel_rfl) (by rw [← hwd]; exact (HS.out.chg.cell C10.out id)) ?_
                intro hS0
                rw [← hwd] at hS0 ⊢
                clear hwd
                refine rgn_take (i := 0) (v := ?rv44) rfl (by kernel_rfl) (by kernel_rfl) (by kernel_rfl) (fun _ _ _ h => h) (by rfl) ?rh44 (by assumption) ?rr44
                case rh44 => (intro w hSw; (try dsimp only at hSw); go_simp; try with_reducible rfl)
                simp only [Act.put, List.setIfInBounds_toArray, List.set_cons_zero, List.set_cons_succ]
                refine rgn_take (i := 1) (v := ?rv45) rfl (by kernel_rfl) (by kernel_rfl) (by kernel_rfl) (fun _ _ _ h => h) (by rfl) ?rh45 (by assumption) ?rr45
                case rh45 => (intro w hSw; (try dsimp only at hSw); go_simp; try with_reducible rfl)
                simp only [Act.put, List.setIfInBounds_toArray, List.set_cons_zero, List.set_cons_succ]
                refine rgn_take (i := 2) (v := ?rv46) rfl (by kernel_rfl) (by kernel_rfl) (by kernel_rfl) (fun _ _ _ h => h) (by rfl) ?rh46 (by assumption) ?rr46
                case rh46 => (intro w hSw; (try dsimp only at hSw); go_simp; try with_reducible rfl)
                simp only [Act.put, List.setIfInBounds_toArray, List.set_cons_zero, List.set_cons_succ]
                refine rgn_take (i := 3) (v := ?rv47) rfl (by kernel_rfl) (by kernel_rfl) (by kernel_rfl) (fun _ _ _ h => h) (by rfl) ?rh47 (by assumption) ?rr47
                case rh47 => (intro w hSw; (try dsimp only at hSw); go_simp; try with_reducible rfl)
                simp only [Act.put, List.setIfInBounds_toArray, List.set_cons_zero, List.set_cons_succ]
                refine rgn_take (i := 4) (v := ?rv48) rfl (by kernel_rfl) (by kernel_rfl) (by kernel_rfl) (fun _ _ _ h => h) (by rfl) ?rh48 (by assumption) ?rr48
                case rh48 => (intro w hSw; (try dsimp only at hSw); go_simp; try with_reducible rfl)
                simp only [Act.put, List.setIfInBounds_toArray, List.set_cons_zero, List.set_cons_succ]
                refine rgn_take (i := 5) (v := ?rv49) rfl (by kernel_rfl) (by kernel_rfl) (by kernel_rfl) (fun _ _ _ h => h) (by rfl) ?rh49 (by assumption) ?rr49
                case rh49 => (intro w hSw; (try dsimp only at hSw); go_simp; try with_reducible rfl)
                simp only [Act.put, List.setIfInBounds_toArray, List.set_cons_zero, List.set_cons_succ]
                refine rgn_take (i := 8) (v := ?rv50) rfl (by kernel_rfl) (by kernel_rfl) (by kernel_rfl) (fun _ _ _ h => h) (by rfl) ?rh50 (by assumption) ?rr50
                case rh50 => (intro w hSw; (try dsimp only at hSw); go_simp; try with_reducible rfl)
                simp only [Act.put, List.setIfInBounds_toArray, List.set_cons_zero, List.set_cons_succ]
                refine rgn_take (i := 9) (v := ?rv51) rfl (by kernel_rfl) (by kernel_rfl) (by kernel_rfl) (fun _ _ _ h => h) (by rfl) ?rh51 (by assumption) ?rr51
                case rh51 => (intro w hSw; (try dsimp only at hSw); go_simp; try with_reducible rfl)
                simp only [Act.put, List.setIfInBounds_toArray, List.set_cons_zero, List.set_cons_succ]
                refine rgn_take (i := 10) (v := ?rv52) rfl (by kernel_rfl) (by kernel_rfl) (by kernel_rfl) (fun _ _ _ h => h) (by rfl) ?rh52 (by assumption) ?rr52
                case rh52 => (intro w hSw; (try dsimp only at hSw); go_simp; try with_reducible rfl)
                simp only [Act.put, List.setIfInBounds_toArray, List.set_cons_zero, List.set_cons_succ]
                refine rgn_take (i := 11) (v := ?rv53) rfl (by kernel_rfl) (by kernel_rfl) (by kernel_rfl) (fun _ _ _ h => h) (by rfl) ?rh53 (by assumption) ?rr53
                case rh53 => (intro w hSw; (try dsimp only at hSw); go_simp; try with_reducible rfl)
                simp only [Act.put, List.setIfInBounds_toArray, List.set_cons_zero, List.set_cons_succ]
                refine rgn_take (i := 12) (v := ?rv54) rfl (by kernel_rfl) (by kernel_rfl) (by kernel_rfl) (fun _ _ _ h => h) (by rfl) ?rh54 (by assumption) ?rr54
                case rh54 => (intro w hSw; (try dsimp only at hSw); go_simp; try with_reducible rfl)
                simp only [Act.put, List.setIfInBounds_toArray, List.set_cons_zero, List.set_cons_succ]
                refine rgn_take (i := 13) (v := ?rv55) rfl (by kernel_rfl) (by kernel_rfl) (by kernel_rfl) (fun _ _ _ h => h) (by rfl) ?rh55 (by assumption) ?rr55
                case rh55 => (intro w hSw; (try dsimp only at hSw); go_simp; try with_reducible rfl)
                simp only [Act.put, List.setIfInBounds_toArray, List.set_cons_zero, List.set_cons_succ]
                refine rgn_both (i := 6) (j := 15) rfl rfl (by kernel_rfl) (fun K hK => ?_) (fun K hK => ?_)
                ·
                  go_simp
                  go_at_call 85
                  refine (rget_n (some ⟨g0, o0 + p2, none⟩) (c - p2) ((b.drop p2).take 8) 8 Hl8.out.symm sq HSq.out wd (HR2.out.new HS.out.chg) (by rw [Hl8.out]; omega)).mono ?_
                  rintro x wy ⟨rfl, rfl⟩
                  refine hK.out _ _ (HS.out.chg.cell C10.out id) (fun hS0 => ?_)
                  clear hK K
                  refine rgn_take (i := 7) (v := ?rv56) rfl (by kernel_rfl) (by kernel_rfl) (by kernel_rfl) (fun _ _ _ h => h) (by rfl) ?rh56 (by assumption) ?rr56
                  case rh56 => (intro w hSw; (try dsimp only at hSw); go_simp; try with_reducible rfl)
                  simp only [Act.put, List.setIfInBounds_toArray, List.set_cons_zero, List.set_cons_succ]
                  refine rgn_take (i := 14) (v := ?rv57) rfl (by kernel_rfl) (by kernel_rfl) (by kernel_rfl) (fun _ _ _ h => h) (by rfl) ?rh57 (by assumption) ?rr57
                  case rh57 => (intro w hSw; (try dsimp only at hSw); go_simp; try with_reducible rfl)
                  simp only [Act.put, List.setIfInBounds_toArray, List.set_cons_zero, List.set_cons_succ]
                  refine rgn_call (i := 15) rfl (by kernel_rfl) (fun K hK => ?_)
                  go_simp
                  have hs := HS.out.allocPt 34 #[.slice none 0 0, .slice none 0 0, .int .i64 0, .bool false]
                  revert hs
                  generalize World.alloc wd _ = w_15
                  generalize wd.heap.size = E15
                  intro hs
                  replace HS : Hid (Sat w (Pt E15 34 #[.slice none 0 0, .slice none 0 0, .int .i64 0, .bool false] * (Row 34 4 (.slice A6 es.length c6) es.length (es.flatMap enV) * (OwnE es * Emp))) w_15) := hs
                  clear hs
                  refine hK.out _ _ (HS.out.chg.cell C10.out id) (fun hS0 => ?_)
                  clear hK K
                  refine rgn_call (i := 16) rfl (by kernel_rfl) (fun K hK => ?_)
                  have f0 := HS.out.frozen 0; have f1 := HS.out.frozen 1; have f2 := HS.out.frozen 2; have f3 := HS.out.frozen 3
                  have d0 := HS.out.cell 0; have d1 := HS.out.cell 1; have d2 := HS.out.cell 2; have d3 := HS.out.cell 3
                  go_simp
                  have hs := (((HS.out.set 0 (.slice none 0 0)).set 1 (.slice none 0 0)).set 2 (.int .i64 si)).set 3 (.bool D)
                  clear f0 f1 f2 f3 d0 d1 d2 d3
                  revert hs
                  generalize World.setCell _ _ _ = w_16
                  intro hs
                  replace HS : Hid (Sat w (Pt E15 34 #[.slice none 0 0, .slice none 0 0, .int .i64 si, .bool D] * (Row 34 4 (.slice A6 es.length c6) es.length (es.flatMap enV) * (OwnE es * Emp))) w_16) := hs
                  clear hs
                  refine hK.out _ _ (HS.out.chg.cell C10.out id) (fun hS0 => ?_)
                  clear hK K
                  try simp only [Act.put, List.setIfInBounds_toArray, List.set_cons_zero, List.set_cons_succ]
                  refine wpAnyH_done (by kernel_rfl) ?_ _
                  go_wp2_with fail
                  go_meet
                  exact ⟨E15, rfl, HS.out⟩
                ·
                  go_simp
                  have hs := HS.out.allocPt 34 #[.slice none 0 0, .slice none 0 0, .int .i64 0, .bool false]
                  revert hs
                  generalize World.alloc wd _ = w_15
                  generalize wd.heap.size = E15
                  intro hs
                  replace HS : Hid (Sat w (Pt E15 34 #[.slice none 0 0, .slice none 0 0, .int .i64 0, .bool false] * (Row 34 4 (.slice A6 es.length c6) es.length (es.flatMap enV) * (OwnE es * Emp))) w_15) := hs
                  clear hs
                  refine hK.out _ _ (HS.out.chg.cell C10.out id) (fun hS0 => ?_)
                  clear hK K
                  refine rgn_call (i := 6) rfl (by kernel_rfl) (fun K hK => ?_)
                  go_simp
                  go_at_call 85
                  refine (rget_n (some ⟨g0, o0 + p2, none⟩) (c - p2) ((b.drop p2).take 8) 8 Hl8.out.symm sq HSq.out w_15 (HR2.out.new HS.out.chg) (by rw [Hl8.out]; omega)).mono ?_
                  rintro x wy ⟨rfl, rfl⟩
                  refine hK.out _ _ (HS.out.chg.cell C10.out id) (fun hS0 => ?_)
                  clear hK K
                  refine rgn_take (i := 7) (v := ?rv58) rfl (by kernel_rfl) (by kernel_rfl) (by kernel_rfl) (fun _ _ _ h => h) (by rfl) ?rh58 (by assumption) ?rr58
                  case rh58 => (intro w hSw; (try dsimp only at hSw); go_simp; try with_reducible rfl)
                  simp only [Act.put, List.setIfInBounds_toArray, List.set_cons_zero, List.set_cons_succ]
                  refine rgn_take (i := 14) (v := ?rv59) rfl (by kernel_rfl) (by kernel_rfl) (by kernel_rfl) (fun _ _ _ h => h) (by rfl) ?rh59 (by assumption) ?rr59
                  case rh59 => (intro w hSw; (try dsimp only at hSw); go_simp; try with_reducible rfl)
                  simp only [Act.put, List.setIfInBounds_toArray, List.set_cons_zero, List.set_cons_succ]
                  refine rgn_call (i := 16) rfl (by kernel_rfl) (fun K hK => ?_)
                  have f0 := HS.out.frozen 0; have f1 := HS.out.frozen 1; have f2 := HS.out.frozen 2; have f3 := HS.out.frozen 3
                  have d0 := HS.out.cell 0; have d1 := HS.out.cell 1; have d2 := HS.out.cell 2; have d3 := HS.out.cell 3
                  go_simp
                  have hs := (((HS.out.set 0 (.slice none 0 0)).set 1 (.slice none 0 0)).set 2 (.int .i64 si)).set 3 (.bool D)
                  clear f0 f1 f2 f3 d0 d1 d2 d3
                  revert hs
                  generalize World.setCell _ _ _ = w_16
                  intro hs
                  replace HS : Hid (Sat w (Pt E15 34 #[.slice none 0 0, .slice none 0 0, .int .i64 si, .bool D] * (Row 34 4 (.slice A6 es.length c6) es.length (es.flatMap enV) * (OwnE es * Emp))) w_16) := hs
                  clear hs
                  refine hK.out _ _ (HS.out.chg.cell C10.out id) (fun hS0 => ?_)
                  clear hK K
                  try simp only [Act.put, List.setIfInBounds_toArray, List.set_cons_zero, List.set_cons_succ]
                  refine wpAnyH_done (by kernel_rfl) ?_ _
                  go_wp2_with fail
                  go_meet
                  exact ⟨E15, rfl, HS.out⟩
              case rest =>
                obtain ⟨E, e9, hcut⟩ := hcut
                subst e9
                have HS := hcut
                clear hcut
                have HXs : Hid ((q.getD 0 0).toNat = x0.toNat) := by unfold Hid; rw [HX.out.1]
                have HXr : Hid ((q.getD 1 0).toNat = x1.toNat) := by unfold Hid; rw [HX.out.2.1]
                have hsh := x0.toNat_lt
                generalize x0.toNat = sh at *
                have hx1l := x1.toNat_lt
                generalize x1.toNat = rs at *
                obtain ⟨L, hL⟩ : ∃ L, L = es.map En.ent := ⟨_, rfl⟩
                have HL := Lib.hid hL
                have hei : es.length = i := HD.out.len
                have HEi := Lib.hid hei
                have HLl : Hid (L.length = i) := by unfold Hid; rw [hL, List.length_map]; exact hei
                obtain ⟨al, hal⟩ : ∃ al, al = aheadS L := ⟨_, rfl⟩
                have HAl := Lib.hid hal
                have HEq2 : Hid (entsQ b = runQ (k + 1) L q) := by unfold Hid; rw [hL, ← HQ.out.1]; exact HEq.out
                have hi8m : i ≤ 100000000 := by omega
                clear hL hal hei
                go_upto_if 91 with fail
                go_cut [12] (fun _ wx => ∃ (KA : Option Addr) (kc : Nat) (kl : List UInt8), Hid (kl = al.take sh ∧ (¬ (L.length % 8 ≠ 0 ∧ al.length < sh)) ∧ Sat w (Pt E 34 #[.slice KA kl.length kc, .slice none 0 0, .int .i64 si, .bool D] * (Row 5 1 (.slice KA kl.length kc) kl.length (kl.map bv) * (Row 34 4 (.slice A6 es.length c6) es.length (es.flatMap enV) * (OwnE es * Emp)))) wx))
                case first =>
                  by_cases h8i : i % 8 = 0
                  · have hm1 : (i : Int) % 8 = 0 := by omega
                    have hm2 : (i : Int).tmod 8 = 0 := by rw [Int.tmod_eq_emod_of_nonneg (by omega)]; exact hm1
                    have HA0 : Hid (al = []) := by unfold Hid; rw [HAl.out]; unfold aheadS; rw [HLl.out, if_pos h8i]
                    have HG : Hid (([] : List UInt8) = al.take sh ∧ ¬ (L.length % 8 ≠ 0 ∧ al.length < sh)) := ⟨by rw [HA0.out]; simp, by rw [HLl.out]; rintro ⟨h5, _⟩; exact h5 h8i⟩
                    clear h8i
                    go_wp2_with fail
                    go_meet
                    exact ⟨none, 0, [], HG.out.1, HG.out.2, (HS.out.row_nil 5 1).up2⟩
                  · have hi0 : 0 < i := by omega
                    have hm1 : ¬ (i : Int) % 8 = 0 := by omega
                    have hm2 : ¬ (i : Int).tmod 8 = 0 := by rw [Int.tmod_eq_emod_of_nonneg (by omega)]; exact hm1
                    have hm3 : 0 < (i : Int) % 8 := by omega
                    have hm4 : 0 < (i : Int).tmod 8 := by rw [Int.tmod_eq_emod_of_nonneg (by omega)]; exact hm3
                    have hil : i - 1 < es.length := by rw [HEi.out]; omega
                    obtain ⟨lb, lo, rfl, hq9⟩ := ents_at (HS.out.up2.row_rdK) (by omega)
                    have y0 := (hq9 (i - 1) hil).1
                    unfold slv' at y0
                    obtain ⟨⟨⟨pA, pc, pl⟩, pv, ps, pd⟩, hp9⟩ : ∃ e, e = es[i - 1] := ⟨_, rfl⟩
                    rw [← hp9] at y0
                    have HPl : Hid (al = pl) := by
                      unfold Hid
                      rw [HAl.out]
                      unfold aheadS
                      rw [HLl.out, if_neg h8i]
                      have h9 : L[i - 1]? = some es[i - 1].ent := by rw [HL.out]; exact map_at hil
                      rw [h9, ← hp9]
                      rfl
                    have HPr : Hid (EnR wc ⟨(pA, pc, pl), pv, ps, pd⟩) := by have h9 := ownE_r HS.out.right.right _ (List.getElem_mem hil); rw [← hp9] at h9; exact h9
                    have HPc : Hid (CapE ⟨(pA, pc, pl), pv, ps, pd⟩) := by have h9 := ownE_cap2 HS.out.right.right _ (List.getElem_mem hil); rw [← hp9] at h9; exact h9
                    have hsub : (i : Int) - 1 = ((i - 1 : Nat) : Int) := by omega
                    have hile : ((i - 1 : Nat) : Int) < es.length := by omega
                    have hlc : es.length ≤ c6 := by
                      obtain ⟨_, _, e9, h1, _⟩ := HS.out.up2.row_sl
                      injection e9 with _ _ e9
                      omega
                    have HNo : Hid (L.length % 8 ≠ 0) := by unfold Hid; rw [HLl.out]; exact h8i
                    clear hq9 hp9 h8i hi0
                    generalize i - 1 = z at *
                    by_cases hlong : pl.length < sh
                    · have HE : Hid (openE b = 73) := ents_no HT.out (fun l hl => by
                        rw [HEq2.out, runQ_none (by
                          unfold stepQ
                          split
                          · rfl
                          · rw [HXs.out, ← HAl.out, HPl.out, if_pos ⟨HNo.out, hlong⟩])] at hl
                        cases hl)
                      have hsi : (pl.length : Int) < sh := by omega
                      clear hlong
                      go_wp2_with fail
                      go_ret2
                      exact REnt.no HE.out (by decide) rfl HS.out.chg
                    · have hsi : ¬ (pl.length : Int) < sh := by omega
                      have hshl : sh ≤ pl.length := by omega
                      have hpcl : pl.length ≤ pc := HPc.out.1.1
                      have hshc : (sh : Int) ≤ pc := by omega
                      have HG : Hid (¬ (L.length % 8 ≠ 0 ∧ al.length < sh)) := by unfold Hid; rw [HPl.out]; rintro ⟨_, h5⟩; omega
                      obtain ⟨tk, htk⟩ : ∃ tk, tk = pl.take sh := ⟨_, rfl⟩
                      have htl : tk.length = sh := by rw [htk, List.length_take]; omega
                      have HTk2 : Hid (tk = al.take sh) := by unfold Hid; rw [HPl.out]; exact htk
                      have HTr : Hid (Rd wc pA tk) := by rw [htk]; exact HPr.out.1.take sh
                      have HTl2 := Lib.hid htl
                      have HSn : Hid (Sat w (Row 5 1 (.slice none 0 0) 0 [] * (Pt E 34 #[.slice none 0 0, .slice none 0 0, .int .i64 si, .bool D] * (Row 34 4 (.slice (some ⟨lb, lo, none⟩) es.length c6) es.length (es.flatMap enV) * (OwnE es * Emp)))) wc.drew) := HS.out.drew.row_nil _ 1
                      have c0 := HS.out.cell 0
                      have hwsh : IntKind.i64.wrap (sh : Int) = sh := by rw [IntKind.wrap_i64]; omega
                      have hsh0 : (0 : Int) ≤ sh := by omega
                      have htk140 : Hid (tk.length ≤ 140737488355328) := by unfold Hid; omega
                      clear htk htl hlong
                      go_upto_region 20 with fail
                      go_region_law (refine step_appB rfl (.tmp 103) (.tmp 106) rfl none 0 [] rfl HSn.out pA pc tk (by rw [HTl2.out]; rfl) (HTr.out.new (Chg.refl No wc).drew) tk rfl htk140.out ?_; intro A20 c20 w20 hs20; have HS20 := Lib.hid hs20.up2; have c1 := hs20.up2.cell 0; have f1 := hs20.up2.frozen 0; clear hs20)
                      all_goals
                        have h5 := HS20.out.set 0 (.slice A20 tk.length c20)
                        clear c1 f1
                        revert h5
                        generalize World.setCell _ _ _ = w21
                        intro h5
                        have HS21 : Hid (Sat w (Pt E 34 #[.slice A20 tk.length c20, .slice none 0 0, .int .i64 si, .bool D] * (Row 5 1 (.slice A20 tk.length c20) tk.length (tk.map bv) * (Row 34 4 (.slice (some ⟨lb, lo, none⟩) es.length c6) es.length (es.flatMap enV) * (OwnE es * Emp)))) w21) := h5
                        clear h5
                        go_wp2_with fail
                        go_meet
                        exact ⟨A20, c20, tk, HTk2.out, HG.out, HS21.out⟩
                case rest =>
                  obtain ⟨KA, kc, kl, hcut⟩ := hcut
                  have hklt := hcut.out.1
                  have hgo := hcut.out.2.1
                  have HS3 := Lib.hid hcut.out.2.2
                  have HKl := Lib.hid hklt
                  have HGo := Lib.hid hgo
                  have hq13 : (q.drop 13).length = b.length - p13 := by rw [List.length_drop, HQ.out.2.1, HQ.out.2.2.2]; omega
                  have HQ13 := Lib.hid hq13
                  have hkll : kl.length ≤ 255 := by rw [hklt, List.length_take]; omega
                  have hql13 : ¬ q.length < 13 := by rw [HQ.out.2.1]; omega
                  have HQl := Lib.hid hql13
                  clear hcut HS hq13 hklt hgo hql13
                  by_cases hsml : b.length - p13 < rs + sz
                  · have HE : Hid (openE b = 73) := ents_no HT.out (fun l hl => by
                      rw [HEq2.out, runQ_none (by
                        unfold stepQ
                        rw [if_neg HQl.out, HXs.out, ← HAl.out, if_neg HGo.out, HXr.out, HX.out.2.2.2.1, if_pos (by rw [HQ13.out]; exact hsml)])] at hl
                      cases hl)
                    have hsi : (b.length : Int) - p13 < (rs : Int) + sz := by omega
                    clear hsml
                    go_wp2_with fail
                    go_ret2
                    exact REnt.no HE.out (by decide) rfl HS3.out.chg
                  · have hsi : ¬ (b.length : Int) - p13 < (rs : Int) + sz := by omega
                    obtain ⟨p14, hp14⟩ : ∃ p, p = p13 + rs := ⟨_, rfl⟩
                    obtain ⟨p15, hp15⟩ : ∃ p, p = p14 + sz := ⟨_, rfl⟩
                    have hp15b : p15 ≤ b.length := by omega
                    obtain ⟨k1, hk1⟩ : ∃ k1, k1 = (b.drop p13).take rs := ⟨_, rfl⟩
                    obtain ⟨v, hv⟩ : ∃ v, v = (b.drop p14).take sz := ⟨_, rfl⟩
                    have hk1l : k1.length = rs := by rw [hk1, List.length_take, List.length_drop]; omega
                    have hvl : v.length = sz := by rw [hv, List.length_take, List.length_drop]; omega
                    obtain ⟨key, hkey⟩ : ∃ key, key = kl ++ k1 := ⟨_, rfl⟩
                    have hkeyl : key.length ≤ 1000 := by rw [hkey, List.length_append]; omega
                    have HStep : Hid (stepQ L q = some (⟨key, v, si, D⟩, b.drop p15)) := by
                      unfold Hid stepQ
                      rw [if_neg HQl.out, HXs.out, ← HAl.out, if_neg HGo.out, HXr.out, HX.out.2.2.2.1, if_neg (by rw [HQ13.out]; exact hsml), HX.out.2.2.2.2.1, HX.out.2.2.2.2.2.1, HX.out.2.2.1, HX.out.2.2.2.2.2.2, ← HQ.out.2.2.1, ← HKl.out, List.drop_drop, List.drop_drop, hkey, hk1, hv, hp15, hp14, Nat.add_assoc]
                    have HN2 : Hid (entsQ b = runQ (n - (i + 1)) (L ++ [⟨key, v, si, D⟩]) (b.drop p15)) := by
                      unfold Hid
                      rw [HEq2.out, runQ_next HStep.out]
                      congr 1
                      omega
                    have hat2 : 13 * (i + 1) ≤ p15 := by have := HQ.out.2.2.2; omega
                    have e14 : (p13 : Int) + rs = (p14 : Int) := by omega
                    have e15 : (p14 : Int) + sz = (p15 : Int) := by omega
                    have w14 : IntKind.i64.wrap (p14 : Int) = p14 := by rw [IntKind.wrap_i64]; omega
                    have w15 : IntKind.i64.wrap (p15 : Int) = p15 := by rw [IntKind.wrap_i64]; omega
                    have z14 : (0 : Int) ≤ p14 := by omega
                    have z15 : (0 : Int) ≤ p15 := by omega
                    have j14 : (p14 : Int) ≤ c := by omega
                    have j15 : (p15 : Int) ≤ c := by omega
                    have g14 : (p13 : Int) ≤ p14 := by omega
                    have g15 : (p14 : Int) ≤ p15 := by omega
                    have d14 : p14 - p13 = rs := by omega
                    have d15 : p15 - p14 = sz := by omega
                    have Hk1l := Lib.hid hk1l; have Hvl := Lib.hid hvl; have Hkey := Lib.hid hkey
                    have hkeyH : Hid (key.length ≤ 140737488355328) := by unfold Hid; omega
                    have hvH : Hid (v.length ≤ 140737488355328) := by unfold Hid; omega
                    have Hk1 := Lib.hid hk1; have Hv := Lib.hid hv
                    have hsi64 : isI64 si := by
                      rw [← HX.out.2.2.2.2.2.1, IntKind.wrap_i64]
                      unfold isI64
                      omega
                    have Hfit : Hid (∀ (A23 : Option Addr) (c23 : Nat) (A24 : Option Addr) (c24 : Nat), ∀ e ∈ es ++ [(⟨(A23, c23, key), (A24, c24, v), si, D⟩ : En)], e.key.2.2.length ≤ 1000 ∧ e.value.2.2.length ≤ 65536 ∧ isI64 e.seq) := fun A23 c23 A24 c24 e he => by
                      rcases List.mem_append.1 he with he | he
                      · exact HD.out.fit e he
                      · rw [List.mem_singleton] at he
                        subst he
                        exact ⟨hkeyl, by show v.length ≤ _; omega, hsi64⟩
                    clear hsi64
                    have hes : es.length ≤ 100000000 := by rw [HEi.out]; omega
                    have hin2 : i + 1 ≤ n := by omega
                    have Hin2 := Lib.hid hin2
                    have Hat2 := Lib.hid hat2
                    have hlen3 : b.length ≤ c := hc
                    clear hk1l hvl hkey hk1 hv hkeyl hat2 hin2 hp14 hp15
                    go_upto_region 23 with fail
                    have hc3 : c = p13 ∨ (¬ c = p13 ∧ c = p14) ∨ (¬ c = p13 ∧ ¬ c = p14) := by omega
                    rcases hc3 with hcp | ⟨hcp, hcq⟩ | ⟨hcp, hcq⟩
                    · obtain rfl : rs = 0 := by omega
                      obtain rfl : sz = 0 := by omega
                      obtain rfl : p14 = p13 := by omega
                      obtain rfl : p15 = p14 := by omega
                      have hk0 : Hid (k1 = []) := List.eq_nil_of_length_eq_zero Hk1l.out
                      have hv0 : Hid (v = []) := List.eq_nil_of_length_eq_zero Hvl.out
                      subst hcp
                      clear e14 e15 g14 g15 d14 d15
                      have c0 := HS3.out.cell 0
                      have HSd := Lib.hid HS3.out.up2.drew
                      go_region_law (refine step_appB rfl (.tmp 118) (.tmp 124) rfl KA kc kl rfl HSd.out (some ⟨g0, o0, none⟩) 0 [] rfl ((Rd.nil w _).new HS3.out.chg.drew) key (by rw [Hkey.out, hk0.out]) hkeyH.out ?_; intro A23 c23 w23 hs; have HS23 := Lib.hid hs.up2; have c1 := hs.up2.cell 0; have f1 := hs.up2.frozen 0; clear hs)
                      all_goals
                        have h5 := HS23.out.set 0 (.slice A23 key.length c23)
                        clear c1 f1 c0
                        revert h5
                        generalize World.setCell _ _ _ = w24
                        intro h5
                        have HS24 : Hid (Sat w (Pt E 34 #[.slice A23 key.length c23, .slice none 0 0, .int .i64 si, .bool D] * (Row 5 1 (.slice A23 key.length c23) key.length (key.map bv) * (Row 34 4 (.slice A6 es.length c6) es.length (es.flatMap enV) * (OwnE es * Emp)))) w24) := h5
                        clear h5
                        go_wp2_with fail
                        have c0 := HS24.out.cell 1
                        have HSe := Lib.hid (HS24.out.drew.row_nil 5 1)
                        go_region_law (refine step_appB rfl (.tmp 128) (.tmp 138) rfl none 0 [] rfl HSe.out (some ⟨g0, o0, none⟩) 0 [] rfl ((Rd.nil w _).new HS24.out.chg.drew) v (by rw [hv0.out]; rfl) hvH.out ?_; intro A24 c24 w25 hs; have HS25 := Lib.hid hs.up2; have c1 := hs.up2.cell 1; have f1 := hs.up2.frozen 1; clear hs)
                        all_goals
                          have h5 := HS25.out.set 1 (.slice A24 v.length c24)
                          clear c1 f1 c0
                          revert h5
                          generalize World.setCell _ _ _ = w26
                          intro h5
                          have HS26 : Hid (Sat w (Pt E 34 #[.slice A23 key.length c23, .slice A24 v.length c24, .int .i64 si, .bool D] * (Row 5 1 (.slice A24 v.length c24) v.length (v.map bv) * (Row 5 1 (.slice A23 key.length c23) key.length (key.map bv) * (Row 34 4 (.slice A6 es.length c6) es.length (es.flatMap enV) * (OwnE es * Emp))))) w26) := h5
                          clear h5
                          have y0 := HS26.out.cell 0; have y1 := HS26.out.cell 1; have y2 := HS26.out.cell 2; have y3 := HS26.out.cell 3
                          go_wp2_with (at_builtin; refine wpList_appS rfl (.tmp 146) (.tmp 148) 22 rfl 34 i0 _ 4 64 Try.underlying22 hi0.out hz0.out hz1.out hz2.out rfl (by decide) (.slice A6 es.length c6) es.length (es.flatMap enV) rfl w _ (by exact (HS26.out.alloc' _).up4) (some ⟨w26.heap.size, 0, none⟩) 1 1 [.slice A23 key.length c23, .slice A24 v.length c24, .int .i64 si, .bool D] rfl (lit_rdv _ _ _) rfl (by intro u hu; simp at hu; rcases hu with rfl | rfl | rfl | rfl <;> rfl) (by unfold maxLen; omega) (by omega) ?_; intro A27 c27 w27 hs; have HS27 := Lib.hid hs; clear hs)
                          go_roundw
                          · (repeat apply Exists.intro)
                            exact ⟨⟨_, i + 1, es ++ [⟨(A23, c23, key), (A24, c24, v), si, D⟩], A27, c27, hp15b, Hin2.out, Hat2.out, rfl, by push_cast; rfl, by rw [List.length_append]; rfl, ⟨by rw [List.map_append, ← HL.out]; exact HN2.out, by rw [List.length_append, HEi.out]; rfl, Hfit.out A23 c23 A24 c24, HS27.out.drop2.of (by rw [ownE_snoc, List.flatMap_append, List.length_append]; show Row _ _ _ _ _ * (Row _ _ _ _ _ * (Row _ _ _ _ _ * (OwnE es * Emp))) = Row _ _ _ _ _ * ((Row _ _ _ _ _ * (Row _ _ _ _ _ * OwnE es)) * Emp); ac_rfl)⟩⟩, rfl⟩
                          · simp [intOf]; omega
                    · have HR13' : Hid (Rd w (some ⟨g0, o0 + p13, none⟩) k1) := by
                        have h9 := Rd.drop (k := p13) (cap := c) HR.out (by omega) hc
                        rw [if_neg hcp, Option.map_some, Addr.add_lit] at h9
                        unfold Hid
                        rw [Hk1.out]
                        exact h9.take rs
                      obtain rfl : sz = 0 := by omega
                      obtain rfl : p15 = p14 := by omega
                      have hv0 : Hid (v = []) := List.eq_nil_of_length_eq_zero Hvl.out
                      subst hcq
                      clear e15 g15 d15
                      have c0 := HS3.out.cell 0
                      have HSd := Lib.hid HS3.out.up2.drew
                      go_region_law (refine step_appB rfl (.tmp 118) (.tmp 124) rfl KA kc kl rfl HSd.out (some ⟨g0, o0 + p13, none⟩) rs k1 (by rw [Hk1l.out]; rfl) (HR13'.out.new HS3.out.chg.drew) key Hkey.out hkeyH.out ?_; intro A23 c23 w23 hs; have HS23 := Lib.hid hs.up2; have c1 := hs.up2.cell 0; have f1 := hs.up2.frozen 0; clear hs)
                      all_goals
                        have h5 := HS23.out.set 0 (.slice A23 key.length c23)
                        clear c1 f1 c0
                        revert h5
                        generalize World.setCell _ _ _ = w24
                        intro h5
                        have HS24 : Hid (Sat w (Pt E 34 #[.slice A23 key.length c23, .slice none 0 0, .int .i64 si, .bool D] * (Row 5 1 (.slice A23 key.length c23) key.length (key.map bv) * (Row 34 4 (.slice A6 es.length c6) es.length (es.flatMap enV) * (OwnE es * Emp)))) w24) := h5
                        clear h5
                        go_wp2_with fail
                        have c0 := HS24.out.cell 1
                        have HSe := Lib.hid (HS24.out.drew.row_nil 5 1)
                        go_region_law (refine step_appB rfl (.tmp 128) (.tmp 138) rfl none 0 [] rfl HSe.out (some ⟨g0, o0, none⟩) 0 [] rfl ((Rd.nil w _).new HS24.out.chg.drew) v (by rw [hv0.out]; rfl) hvH.out ?_; intro A24 c24 w25 hs; have HS25 := Lib.hid hs.up2; have c1 := hs.up2.cell 1; have f1 := hs.up2.frozen 1; clear hs)
                        all_goals
                          have h5 := HS25.out.set 1 (.slice A24 v.length c24)
                          clear c1 f1 c0
                          revert h5
                          generalize World.setCell _ _ _ = w26
                          intro h5
                          have HS26 : Hid (Sat w (Pt E 34 #[.slice A23 key.length c23, .slice A24 v.length c24, .int .i64 si, .bool D] * (Row 5 1 (.slice A24 v.length c24) v.length (v.map bv) * (Row 5 1 (.slice A23 key.length c23) key.length (key.map bv) * (Row 34 4 (.slice A6 es.length c6) es.length (es.flatMap enV) * (OwnE es * Emp))))) w26) := h5
                          clear h5
                          have y0 := HS26.out.cell 0; have y1 := HS26.out.cell 1; have y2 := HS26.out.cell 2; have y3 := HS26.out.cell 3
                          go_wp2_with (at_builtin; refine wpList_appS rfl (.tmp 146) (.tmp 148) 22 rfl 34 i0 _ 4 64 Try.underlying22 hi0.out hz0.out hz1.out hz2.out rfl (by decide) (.slice A6 es.length c6) es.length (es.flatMap enV) rfl w _ (by exact (HS26.out.alloc' _).up4) (some ⟨w26.heap.size, 0, none⟩) 1 1 [.slice A23 key.length c23, .slice A24 v.length c24, .int .i64 si, .bool D] rfl (lit_rdv _ _ _) rfl (by intro u hu; simp at hu; rcases hu with rfl | rfl | rfl | rfl <;> rfl) (by unfold maxLen; omega) (by omega) ?_; intro A27 c27 w27 hs; have HS27 := Lib.hid hs; clear hs)
                          go_roundw
                          · (repeat apply Exists.intro)
                            exact ⟨⟨_, i + 1, es ++ [⟨(A23, c23, key), (A24, c24, v), si, D⟩], A27, c27, hp15b, Hin2.out, Hat2.out, rfl, by push_cast; rfl, by rw [List.length_append]; rfl, ⟨by rw [List.map_append, ← HL.out]; exact HN2.out, by rw [List.length_append, HEi.out]; rfl, Hfit.out A23 c23 A24 c24, HS27.out.drop2.of (by rw [ownE_snoc, List.flatMap_append, List.length_append]; show Row _ _ _ _ _ * (Row _ _ _ _ _ * (Row _ _ _ _ _ * (OwnE es * Emp))) = Row _ _ _ _ _ * ((Row _ _ _ _ _ * (Row _ _ _ _ _ * OwnE es)) * Emp); ac_rfl)⟩⟩, rfl⟩
                          · simp [intOf]; omega
                    · have HR13' : Hid (Rd w (some ⟨g0, o0 + p13, none⟩) k1) := by
                        have h9 := Rd.drop (k := p13) (cap := c) HR.out (by omega) hc
                        rw [if_neg hcp, Option.map_some, Addr.add_lit] at h9
                        unfold Hid
                        rw [Hk1.out]
                        exact h9.take rs
                      have HR14' : Hid (Rd w (some ⟨g0, o0 + p14, none⟩) v) := by
                        have h9 := Rd.drop (k := p14) (cap := c) HR.out (by omega) hc
                        rw [if_neg hcq, Option.map_some, Addr.add_lit] at h9
                        unfold Hid
                        rw [Hv.out]
                        exact h9.take sz
                      have c0 := HS3.out.cell 0
                      have HSd := Lib.hid HS3.out.up2.drew
                      go_region_law (refine step_appB rfl (.tmp 118) (.tmp 124) rfl KA kc kl rfl HSd.out (some ⟨g0, o0 + p13, none⟩) (c - p13) k1 (by rw [Hk1l.out]; rfl) (HR13'.out.new HS3.out.chg.drew) key Hkey.out hkeyH.out ?_; intro A23 c23 w23 hs; have HS23 := Lib.hid hs.up2; have c1 := hs.up2.cell 0; have f1 := hs.up2.frozen 0; clear hs)
                      all_goals
                        have h5 := HS23.out.set 0 (.slice A23 key.length c23)
                        clear c1 f1 c0
                        revert h5
                        generalize World.setCell _ _ _ = w24
                        intro h5
                        have HS24 : Hid (Sat w (Pt E 34 #[.slice A23 key.length c23, .slice none 0 0, .int .i64 si, .bool D] * (Row 5 1 (.slice A23 key.length c23) key.length (key.map bv) * (Row 34 4 (.slice A6 es.length c6) es.length (es.flatMap enV) * (OwnE es * Emp)))) w24) := h5
                        clear h5
                        go_wp2_with fail
                        have c0 := HS24.out.cell 1
                        have HSe := Lib.hid (HS24.out.drew.row_nil 5 1)
                        go_region_law (refine step_appB rfl (.tmp 128) (.tmp 138) rfl none 0 [] rfl HSe.out (some ⟨g0, o0 + p14, none⟩) (c - p14) v (by rw [Hvl.out]; rfl) (HR14'.out.new HS24.out.chg.drew) v rfl hvH.out ?_; intro A24 c24 w25 hs; have HS25 := Lib.hid hs.up2; have c1 := hs.up2.cell 1; have f1 := hs.up2.frozen 1; clear hs)
                        all_goals
                          have h5 := HS25.out.set 1 (.slice A24 v.length c24)
                          clear c1 f1 c0
                          revert h5
                          generalize World.setCell _ _ _ = w26
                          intro h5
                          have HS26 : Hid (Sat w (Pt E 34 #[.slice A23 key.length c23, .slice A24 v.length c24, .int .i64 si, .bool D] * (Row 5 1 (.slice A24 v.length c24) v.length (v.map bv) * (Row 5 1 (.slice A23 key.length c23) key.length (key.map bv) * (Row 34 4 (.slice A6 es.length c6) es.length (es.flatMap enV) * (OwnE es * Emp))))) w26) := h5
                          clear h5
                          have y0 := HS26.out.cell 0; have y1 := HS26.out.cell 1; have y2 := HS26.out.cell 2; have y3 := HS26.out.cell 3
                          go_wp2_with (at_builtin; refine wpList_appS rfl (.tmp 146) (.tmp 148) 22 rfl 34 i0 _ 4 64 Try.underlying22 hi0.out hz0.out hz1.out hz2.out rfl (by decide) (.slice A6 es.length c6) es.length (es.flatMap enV) rfl w _ (by exact (HS26.out.alloc' _).up4) (some ⟨w26.heap.size, 0, none⟩) 1 1 [.slice A23 key.length c23, .slice A24 v.length c24, .int .i64 si, .bool D] rfl (lit_rdv _ _ _) rfl (by intro u hu; simp at hu; rcases hu with rfl | rfl | rfl | rfl <;> rfl) (by unfold maxLen; omega) (by omega) ?_; intro A27 c27 w27 hs; have HS27 := Lib.hid hs; clear hs)
                          go_roundw
                          · (repeat apply Exists.intro)
                            exact ⟨⟨_, i + 1, es ++ [⟨(A23, c23, key), (A24, c24, v), si, D⟩], A27, c27, hp15b, Hin2.out, Hat2.out, rfl, by push_cast; rfl, by rw [List.length_append]; rfl, ⟨by rw [List.map_append, ← HL.out]; exact HN2.out, by rw [List.length_append, HEi.out]; rfl, Hfit.out A23 c23 A24 c24, HS27.out.drop2.of (by rw [ownE_snoc, List.flatMap_append, List.length_append]; show Row _ _ _ _ _ * (Row _ _ _ _ _ * (Row _ _ _ _ _ * (OwnE es * Emp))) = Row _ _ _ _ _ * ((Row _ _ _ _ _ * (Row _ _ _ _ _ * OwnE es)) * Emp); ac_rfl)⟩⟩, rfl⟩
                          · simp [intOf]; omega
          · have hni : n - i = 0 := by omega
            obtain ⟨L, hL⟩ : ∃ L, es.map En.ent = L := ⟨_, rfl⟩
            have HEq : Hid (entsQ b = some L) := by unfold Hid; rw [HD.out.eq, hni, hL]; rfl
            obtain ⟨z, hz⟩ : ∃ z, buildE L = z := ⟨_, rfl⟩
            obtain ⟨bs, hbs⟩ : ∃ bs, bs = if z = 0 then buildB L else [] := ⟨_, rfl⟩
            have hs0 := HD.out.sat
            have Hcs : Hid (es.length ≤ c6 ∧ c6 ≤ maxLen) := by
              obtain ⟨_, _, e1, h1, h2⟩ := hs0.row_sl
              injection e1 with e1 _ e2
              subst e2
              exact ⟨h1, h2⟩
            have hfit : ∀ y ∈ es, FitE y := fun y hy => ⟨by have := (HD.out.fit y hy).1; omega, by have := (HD.out.fit y hy).2.1; omega, ownE_cap2 hs0.right y hy, (HD.out.fit y hy).2.2⟩
            have HB := Lib.hid (rbld_S A6 c6 es L hL bs z hz hbs w wr _ hs0 hs0.row_rdK (ownE_r hs0.right) Hcs.out.1 Hcs.out.2 hfit)
            have Hz := Lib.hid hz; have Hbs := Lib.hid hbs; have HL := Lib.hid hL
            obtain ⟨SC, SD, T2, g1, g2, g3, g4⟩ := str_two bs b
            have HT2 := Lib.hid g4; have G1 := Lib.hid g1; have G2 := Lib.hid g2
            clear hz hbs hL hfit hs0 hni g1 g2 g4
            go_upto_region 28 with (go_at_call 25; (with_reducible refine HB.out.mono ?_); rintro x w1 ⟨B1, d1, rfl, hs⟩; have HS1 := Lib.hid hs; clear hs)
            have s1 := str_any HS1.out.row_rdK d1
            have s2 := str_any (HR.out.new HS1.out.chg) c
            rw [← G1.out] at s1
            rw [← G2.out] at s2
            by_cases hz0 : z = 0
            · have hzi : (z : Int) = 0 := by omega
              have Hz0 := Lib.hid hz0
              clear hz0
              cases T2
              · have HE : Hid (openE b = 73) := ents_no HT.out (fun l hl => by
                  rw [HEq.out] at hl
                  injection hl with hl
                  subst hl
                  refine .inr fun h5 => ?_
                  have h6 := Hbs.out
                  rw [if_pos Hz0.out, h5] at h6
                  exact absurd h6 (of_decide_eq_false HT2.out.symm))
                go_wp2_with fail
                go_ret2
                exact REnt.no HE.out (by decide) rfl HS1.out.chg
              · have HE : Hid (openE b = 0 ∧ (readP b).1 = L) := by
                  refine ents_yes HEq.out (by rw [Hz.out]; exact Hz0.out) ?_
                  have h6 := Hbs.out
                  rw [if_pos Hz0.out] at h6
                  rw [← h6]
                  exact of_decide_eq_true HT2.out.symm
                go_wp2_with fail
                go_ret2
                exact .inr ⟨HE.out.1, es, A6, c6, rfl, HL.out.trans HE.out.2.symm, Hcs.out.1, Hcs.out.2, HS1.out.right⟩
            · have hzi : ¬ (z : Int) = 0 := by omega
              have HE : Hid (openE b = 73) := ents_no HT.out (fun l hl => by
                rw [HEq.out] at hl
                injection hl with hl
                subst hl
                exact .inl (by rw [Hz.out]; exact hz0))
              clear hz0
              go_wp2_with fail
              go_ret2
              exact REnt.no HE.out (by decide) rfl HS1.out.chg
end Go.Proofs.Ytaoenbjfkahdjaa
