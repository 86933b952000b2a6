/- Joined, as they were built one by one: Ext9 Ext10 Ext11. -/
import Derived.Test.YtjmapbhgjhlefaaQ09
namespace Go.Proofs.Ytjmapbhgjhlefaa
open Go.RowKit
set_option linter.unusedVariables false
set_option maxRecDepth 100000

section
variable {w0 w : World} {F : SP}
theorem oget_n (A : Option Addr) (c : Nat) (l : List UInt8) (n : Nat) (hn : n = l.length) (z : Nat) (hz : getN l = z) (w : World) (h : Rd w A l) (hl : n ≤ 8) :
    Calls Try.prog 85 #[.slice A n c] w fun e w' => e = .returned (.int .u64 (z : Int)) ∧ w = w' := by
  subst hn; subst hz
  exact (oget_any A c l w h hl).mono fun e w' ⟨h1, h2⟩ => ⟨h1, h2.symm⟩
/-- What the reading of a head leaves. -/
def UnsX (w0 : World) (F : SP) (o : Option (Nat × List Hd)) (e : Ending) (w' : World) : Prop :=
  (o = none ∧ e = .returned (.tuple #[.int .u64 0, .slice none 0 0, .bool false]) ∧ Sat w0 F w') ∨
  ∃ turn hs V gs, o = some (turn, hs) ∧ e = .returned (.tuple #[.int .u64 (turn : Int), V, .bool true]) ∧ gs.map (fun x => x.2) = hs.map Hd.fl ∧ Sat w0 (Row 104 1 V gs.length (gs.map fun x => ptrV x.1) * (FlsP gs * F)) w'
theorem ptrT : (Try.prog.info? 104).map (fun i => (i.zero, i.size, i.bytes)) = some (some (.pointer none), 1, 8) := by kernel_rfl
theorem rowsH_snoc : ∀ (n : Nat) (r : List UInt8), rowsH (n + 1) r = rowsH n r ++ [hdOf (r.drop (20 * n))]
  | 0, r => by simp [rowsH]
  | n + 1, r => by
    have ih := rowsH_snoc n (r.drop 20)
    rw [List.drop_drop] at ih
    show hdOf r :: rowsH (n + 1) (r.drop 20) = (hdOf r :: rowsH n (r.drop 20)) ++ [hdOf (r.drop (20 * (n + 1)))]
    rw [ih, List.cons_append, show 20 * (n + 1) = 20 + 20 * n by omega]
theorem hdOf_small (r : List UInt8) : HdOk (hdOf r) := by
  have h4 : ∀ l : List UInt8, l.length ≤ 4 → getN l < 4294967296 := fun l hl => Nat.lt_of_lt_of_le (getN_lt l) (Nat.le_trans (Nat.pow_le_pow_right (by decide) hl) (by decide))
  exact ⟨h4 _ (by simp; omega), h4 _ (by simp; omega), h4 _ (by simp; omega), getN_lt64 _ (by simp; omega)⟩
set_option maxHeartbeats 4000000 in
theorem unseal_any (A : Option Addr) (c : Nat) (b : List UInt8) (h : Sat w0 F w) (hb : ∀ W, Sat w0 F W → Rd W A b) (hl : b.length = 512) (hc : 512 ≤ c) (hm : c ≤ 9223372036854775807) :
    Calls Try.prog 82 #[.slice A 512 c] w (UnsX w0 F (unsealB b)) := by
  obtain ⟨i0, hi0', hz0', hz1', hz2'⟩ := info_parts ptrT
  have hi0 := Lib.hid hi0'; have hz0 := Lib.hid hz0'; have hz1 := Lib.hid hz1'; have hz2 := Lib.hid hz2'
  have HR := Lib.hid hb
  have HS := Lib.hid h
  have HL := Lib.hid hl
  have hr0 := hb w h
  obtain ⟨g, o, rfl, hcell⟩ := hr0 (by intro e; have := congrArg List.length e; simp [hl] at this)
  have hc1 : (4 : Int) ≤ c := by omega
  have hc2 : (12 : Int) ≤ c := by omega
  have hc3 : (512 : Int) ≤ c := by omega
  have hc13 : ¬ c = 13 := by omega
  have hc4 : ¬ c = 4 := by omega
  obtain ⟨B, hB⟩ : ∃ B, decide (b.take 4 = markX) = B := ⟨_, rfl⟩
  obtain ⟨SA, hSA⟩ : ∃ SA, SA = ByteArray.mk (b.take 4).toArray := ⟨_, rfl⟩
  have hST : SA.toList = b.take 4 := by rw [hSA]; simp
  have hcmp : (SA.toList == [84, 68, 88, 49]) = B := by
    rw [hST, ← hB]
    show (b.take 4 == markX) = _
    by_cases e : b.take 4 = markX
    · rw [e]; simp
    · rw [decide_eq_false e]
      exact beq_eq_false_iff_ne.2 e
  clear hST
  have ht4 : (b.take 4).length = 4 := by rw [List.length_take]; omega
  have s1 : (convert 39 9 (.slice (some ⟨g, o, none⟩) 4 c)).run Try.prog w = .ok (.string SA) w := by
    have h9 := Rd.str (P := Try.prog) (Rd.take (hb w h) 4) 39 9 5 Try.underlying39 Try.underlying5 Try.underlying9 c
    rw [ht4] at h9
    rw [hSA]
    exact h9
  obtain ⟨x, hx⟩ : ∃ x, x = b.getD 12 0 := ⟨_, rfl⟩
  have z12 : w.cell? ⟨g, o + 12, none⟩ = some (.int .u8 (x.toNat : Int)) := by
    have h9 := hcell 12 (by simp [hl])
    rw [h9, hx, List.getElem_map, List.getD_eq_getElem?_getD, List.getElem?_eq_getElem (by omega)]
    rfl
  have hx8 := x.toNat_lt
  have hwx : IntKind.i64.wrap (x.toNat : Int) = x.toNat := by rw [IntKind.wrap_i64]; omega
  have HX := Lib.hid hx; have HB := Lib.hid hB
  clear h hb hl hi0' hz0' hz1' hz2' hcell hSA ht4 hx hB
  go_enter Try.func82, Try.ntmps82
  cases B
  · have HU : Hid (unsealB b = none) := by unfold Hid unsealB; rw [if_neg]; rintro ⟨h9, _⟩; exact of_decide_eq_false HB.out h9
    go_wp2_with fail
    go_ret3
    exact .inl ⟨HU.out, rfl, HS.out⟩
  · by_cases hx24 : x.toNat ≤ 24
    · have hx25 : ¬ (24 : Int) < x.toNat := by omega
      obtain ⟨turn, htu⟩ : ∃ t, getN ((b.drop 4).take 8) = t := ⟨_, rfl⟩
      obtain ⟨n, hn⟩ : ∃ n, n = x.toNat := ⟨_, rfl⟩
      have HU : Hid (unsealB b = some (turn, rowsH n (b.drop 13))) := by unfold Hid unsealB; rw [if_pos ⟨of_decide_eq_true HB.out, by rw [← HX.out]; exact hx24⟩, htu, ← HX.out, hn]
      have l8 : 8 = ((b.drop 4).take 8).length := by rw [List.length_take, List.length_drop, HL.out]; rfl
      have HT : Hid (Rd w (some ⟨g, o + 4, none⟩) ((b.drop 4).take 8)) := by
        have h9 := Rd.drop (k := 4) (cap := c) hr0 (by rw [HL.out]; omega) (by rw [HL.out]; omega)
        rw [if_neg hc4, Option.map_some, Addr.add_lit] at h9
        exact h9.take 8
      have HG := Lib.hid (oget_n (some ⟨g, o + 4, none⟩) (c - 4) ((b.drop 4).take 8) 8 l8 turn htu w HT.out (by omega))
      rw [← hn] at z12 hwx hx25
      have hn24 : n ≤ 24 := by omega
      clear htu l8 hr0 hn hx24
      go_upto_region 6 with (go_at_call 85; (with_reducible refine HG.out.mono ?_); rintro y wx ⟨rfl, rfl⟩)
      go_loopw [3, 5, 6, 26] (fun fv rv _ iv wr => ∃ (k : Nat) (C : Option Addr) (cc : Nat) (gs : List (Nat × Fl)), k ≤ n ∧ fv = .slice C k cc ∧ rv = .slice (some ⟨g, o + 13 + 20 * k, none⟩) (499 - 20 * k) (c - 13 - 20 * k) ∧ iv = .int .u8 (k : Int) ∧ Hid (gs.length = k ∧ gs.map (fun x => x.2) = (rowsH k (b.drop 13)).map Hd.fl ∧ Sat w0 (Row 104 1 (.slice C k cc) k (gs.map fun x => ptrV x.1) * (FlsP gs * F)) wr)) (fun _ _ _ iv _ => n - (intOf iv).toNat)
      case atStart => exact ⟨0, none, 0, [], by omega, rfl, rfl, rfl, rfl, rfl, (HS.out.of (emp_star F).symm).row_nil _ 1⟩
      case round =>
        obtain ⟨k, C, cc, gs, hk, rfl, rfl, rfl, HD⟩ := hrel
        by_cases hlt : k < n
        · have hk2 : (k : Int) < n := by omega
          obtain ⟨ro, hro⟩ : ∃ r, r = o + 13 + 20 * k := ⟨_, rfl⟩
          obtain ⟨rl, hrl⟩ : ∃ r, r = 499 - 20 * k := ⟨_, rfl⟩
          obtain ⟨rc, hrc⟩ : ∃ r, r = c - 13 - 20 * k := ⟨_, rfl⟩
          obtain ⟨q, hq⟩ : ∃ q, q = (b.drop 13).drop (20 * k) := ⟨_, rfl⟩
          have hql : q.length = rl := by rw [hq, List.length_drop, List.length_drop, HL.out]; omega
          have m1 : (20 : Int) ≤ rl := by omega
          have m2 : (20 : Int) ≤ rc := by omega
          have m3 : (12 : Int) ≤ rc := by omega
          have m4 : (8 : Int) ≤ rc := by omega
          have m5 : (4 : Int) ≤ rc := by omega
          have m7 : (rl : Int) ≤ rc := by omega
          have m6 : ¬ rc = 20 := by omega
          have m8 : ¬ rc = 4 := by omega
          have m9 : ¬ rc = 8 := by omega
          have m10 : ¬ rc = 12 := by omega
          have HQ : Hid (∀ W, Sat w0 F W → Rd W (some ⟨g, ro, none⟩) q) := fun W hW => by
            have h9 := Rd.drop (k := 13 + 20 * k) (cap := c) (HR.out W hW) (by rw [HL.out]; omega) (by rw [HL.out]; omega)
            rw [if_neg (by omega), Option.map_some, Addr.add_lit] at h9
            rw [hq, List.drop_drop, hro, Nat.add_assoc]
            exact h9
          have HQ4 : Hid (∀ W j, j ≤ 12 → 0 < j → Sat w0 F W → Rd W (some ⟨g, ro + j, none⟩) (q.drop j)) := fun W j hj hj0 hW => by
            have h9 := Rd.drop (k := j) (cap := rc) (HQ.out W hW) (by omega) (by omega)
            rw [if_neg (by omega), Option.map_some, Addr.add_lit] at h9
            exact h9
          obtain ⟨n1, hn1⟩ : ∃ z, getN (q.take 4) = z := ⟨_, rfl⟩
          obtain ⟨n2, hn2⟩ : ∃ z, getN ((q.drop 4).take 4) = z := ⟨_, rfl⟩
          obtain ⟨n3, hn3⟩ : ∃ z, getN ((q.drop 8).take 4) = z := ⟨_, rfl⟩
          obtain ⟨n4, hn4⟩ : ∃ z, getN ((q.drop 12).take 8) = z := ⟨_, rfl⟩
          have hok := hdOf_small q
          have HH : Hid (hdOf q = ⟨n1, n2, n3, n4⟩) := by unfold Hid hdOf; rw [hn1, hn2, hn3, hn4]
          rw [HH.out] at hok
          have b1 : n1 < 4294967296 := hok.1
          have b2 : n2 < 4294967296 := hok.2.1
          have b3 : n3 < 4294967296 := hok.2.2.1
          have v1 : IntKind.i64.wrap (n1 : Int) = n1 := by rw [IntKind.wrap_i64]; omega
          have v2 : IntKind.i64.wrap (n2 : Int) = n2 := by rw [IntKind.wrap_i64]; omega
          have v3 : IntKind.i64.wrap (n3 : Int) = n3 := by rw [IntKind.wrap_i64]; omega
          have q4 : 4 = (q.take 4).length := by rw [List.length_take]; omega
          have q44 : 4 = ((q.drop 4).take 4).length := by rw [List.length_take, List.length_drop]; omega
          have q84 : 4 = ((q.drop 8).take 4).length := by rw [List.length_take, List.length_drop]; omega
          have q12 : 8 = ((q.drop 12).take 8).length := by rw [List.length_take, List.length_drop]; omega
          have HG1 := Lib.hid fun (W : World) (hW : Sat w0 F W) => oget_n (some ⟨g, ro, none⟩) rc (q.take 4) 4 q4 n1 hn1 W ((HQ.out W hW).take 4) (by omega)
          have HG2 := Lib.hid fun (W : World) (hW : Sat w0 F W) => oget_n (some ⟨g, ro + 4, none⟩) (rc - 4) ((q.drop 4).take 4) 4 q44 n2 hn2 W ((HQ4.out W 4 (by omega) (by omega) hW).take 4) (by omega)
          have HG3 := Lib.hid fun (W : World) (hW : Sat w0 F W) => oget_n (some ⟨g, ro + 8, none⟩) (rc - 8) ((q.drop 8).take 4) 4 q84 n3 hn3 W ((HQ4.out W 8 (by omega) (by omega) hW).take 4) (by omega)
          have HG4 := Lib.hid fun (W : World) (hW : Sat w0 F W) => oget_n (some ⟨g, ro + 12, none⟩) (rc - 12) ((q.drop 12).take 8) 8 q12 n4 hn4 W ((HQ4.out W 12 (by omega) (by omega) hW).take 8) (by omega)
          have HRw : Hid (rowsH (k + 1) (b.drop 13) = rowsH k (b.drop 13) ++ [⟨n1, n2, n3, n4⟩]) := by unfold Hid; rw [rowsH_snoc, ← hq, HH.out]
          have HN1 : Hid (ro + 20 = o + 13 + 20 * (k + 1) ∧ rl - 20 = 499 - 20 * (k + 1) ∧ rc - 20 = c - 13 - 20 * (k + 1)) := by unfold Hid; omega
          have hk8 : IntKind.u8.wrap ((k : Int) + 1) = (k : Int) + 1 := by rw [IntKind.wrap_u8]; omega
          have hkn : k + 1 ≤ n := hlt
          have HS7 := Lib.hid HD.out.2.2.drew
          obtain ⟨B14, hB14⟩ : ∃ B, wr.heap.size = B := ⟨_, rfl⟩
          have HBd : Hid (wr.drew.heap.size = B14) := hB14
          have HBe : Hid (wr.heap.size = B14) := hB14
          clear hB14
          rw [← hro, ← hrl, ← hrc]
          clear hro hrl hrc hq hql hn1 hn2 hn3 hn4 hok b1 b2 b3 q4 q44 q84 q12 hlt
          go_upto_region 7 with fail
          refine wp_region_held_drew (S := fun _ => True) (by kernel_rfl) trivial ?_
          intro hS0
          refine rgn_take (i := 0) (v := ?rv1) rfl (by kernel_rfl) (by kernel_rfl) (by kernel_rfl) (fun _ _ _ h => h) (by rfl) ?rh1 (by assumption) ?rr1
          case rh1 => (intro w hSw; (try dsimp only at hSw); go_simp; try with_reducible rfl)
          simp only [Act.put, List.setIfInBounds_toArray, List.set_cons_zero, List.set_cons_succ]
          refine rgn_take (i := 1) (v := ?rv2) rfl (by kernel_rfl) (by kernel_rfl) (by kernel_rfl) (fun _ _ _ h => h) (by rfl) ?rh2 (by assumption) ?rr2
          case rh2 => (intro w hSw; (try dsimp only at hSw); go_simp; try with_reducible rfl)
          simp only [Act.put, List.setIfInBounds_toArray, List.set_cons_zero, List.set_cons_succ]
          refine rgn_take (i := 4) (v := ?rv3) rfl (by kernel_rfl) (by kernel_rfl) (by kernel_rfl) (fun _ _ _ h => h) (by rfl) ?rh3 (by assumption) ?rr3
          case rh3 => (intro w hSw; (try dsimp only at hSw); go_simp; try with_reducible rfl)
          simp only [Act.put, List.setIfInBounds_toArray, List.set_cons_zero, List.set_cons_succ]
          refine rgn_take (i := 5) (v := ?rv4) rfl (by kernel_rfl) (by kernel_rfl) (by kernel_rfl) (fun _ _ _ h => h) (by rfl) ?rh4 (by assumption) ?rr4
          case rh4 => (intro w hSw; (try dsimp only at hSw); go_simp; try with_reducible rfl)
          simp only [Act.put, List.setIfInBounds_toArray, List.set_cons_zero, List.set_cons_succ]
          refine rgn_take (i := 8) (v := ?rv5) rfl (by kernel_rfl) (by kernel_rfl) (by kernel_rfl) (fun _ _ _ h => h) (by rfl) ?rh5 (by assumption) ?rr5
          case rh5 => (intro w hSw; (try dsimp only at hSw); go_simp; try with_reducible rfl)
          simp only [Act.put, List.setIfInBounds_toArray, List.set_cons_zero, List.set_cons_succ]
          refine rgn_take (i := 9) (v := ?rv6) rfl (by kernel_rfl) (by kernel_rfl) (by kernel_rfl) (fun _ _ _ h => h) (by rfl) ?rh6 (by assumption) ?rr6
          case rh6 => (intro w hSw; (try dsimp only at hSw); go_simp; try with_reducible rfl)
          simp only [Act.put, List.setIfInBounds_toArray, List.set_cons_zero, List.set_cons_succ]
          refine rgn_call (i := 2) rfl (by kernel_rfl) (fun K hK => ?_)
          go_simp
          go_at_call 85; (with_reducible refine (HG1.out _ HS7.out.right.right).mono ?_); rintro y wx ⟨rfl, rfl⟩
          refine hK.out _ _ trivial (fun hS0 => ?_)
          clear hK K
          refine rgn_take (i := 3) (v := ?rv8) rfl (by kernel_rfl) (by kernel_rfl) (by kernel_rfl) (fun _ _ _ h => h) (by rfl) ?rh8 (by assumption) ?rr8
          case rh8 => (intro w hSw; (try dsimp only at hSw); go_simp; try with_reducible rfl)
          simp only [Act.put, List.setIfInBounds_toArray, List.set_cons_zero, List.set_cons_succ]
          refine rgn_call (i := 6) rfl (by kernel_rfl) (fun K hK => ?_)
          go_simp
          go_at_call 85; (with_reducible refine (HG2.out _ HS7.out.right.right).mono ?_); rintro y wx ⟨rfl, rfl⟩
          refine hK.out _ _ trivial (fun hS0 => ?_)
          clear hK K
          refine rgn_take (i := 7) (v := ?rv10) rfl (by kernel_rfl) (by kernel_rfl) (by kernel_rfl) (fun _ _ _ h => h) (by rfl) ?rh10 (by assumption) ?rr10
          case rh10 => (intro w hSw; (try dsimp only at hSw); go_simp; try with_reducible rfl)
          simp only [Act.put, List.setIfInBounds_toArray, List.set_cons_zero, List.set_cons_succ]
          refine rgn_call (i := 10) rfl (by kernel_rfl) (fun K hK => ?_)
          go_simp
          go_at_call 85; (with_reducible refine (HG3.out _ HS7.out.right.right).mono ?_); rintro y wx ⟨rfl, rfl⟩
          refine hK.out _ _ trivial (fun hS0 => ?_)
          clear hK K
          refine rgn_take (i := 11) (v := ?rv12) rfl (by kernel_rfl) (by kernel_rfl) (by kernel_rfl) (fun _ _ _ h => h) (by rfl) ?rh12 (by assumption) ?rr12
          case rh12 => (intro w hSw; (try dsimp only at hSw); go_simp; try with_reducible rfl)
          simp only [Act.put, List.setIfInBounds_toArray, List.set_cons_zero, List.set_cons_succ]
          refine rgn_take (i := 12) (v := ?rv13) rfl (by kernel_rfl) (by kernel_rfl) (by kernel_rfl) (fun _ _ _ h => h) (by rfl) ?rh13 (by assumption) ?rr13
          case rh13 => (intro w hSw; (try dsimp only at hSw); go_simp; try with_reducible rfl)
          simp only [Act.put, List.setIfInBounds_toArray, List.set_cons_zero, List.set_cons_succ]
          refine rgn_take (i := 13) (v := ?rv14) rfl (by kernel_rfl) (by kernel_rfl) (by kernel_rfl) (fun _ _ _ h => h) (by rfl) ?rh14 (by assumption) ?rr14
          case rh14 => (intro w hSw; (try dsimp only at hSw); go_simp; try with_reducible rfl)
          simp only [Act.put, List.setIfInBounds_toArray, List.set_cons_zero, List.set_cons_succ]
          refine rgn_call (i := 14) rfl (by kernel_rfl) (fun K hK => ?_)
          go_simp
          (try rw [HBd.out]); (try rw [HBe.out])
          refine hK.out _ _ trivial (fun hS0 => ?_)
          clear hK K
          refine rgn_take (i := 15) (v := ?rv16) rfl (by kernel_rfl) (by kernel_rfl) (by kernel_rfl) (fun _ _ _ h => h) (by rfl) ?rh16 (by assumption) ?rr16
          case rh16 => (intro w hSw; (try dsimp only at hSw); go_simp; try with_reducible rfl)
          simp only [Act.put, List.setIfInBounds_toArray, List.set_cons_zero, List.set_cons_succ]
          refine wpAnyH_done (by kernel_rfl) ?_ _
          go_upto_region 8 with fail
          have hs := HD.out.2.2.allocPt 110 #[.int .i64 (n1 : Int), .int .i64 (n2 : Int), .int .i64 (n3 : Int), .int .u64 0, .int .u64 0, .slice none 0 0]
          rw [HBe.out] at hs
          revert hs
          generalize World.alloc wr _ = w14
          intro hs
          have hs : Sat w0 (Pt B14 110 (flC ⟨n1, n2, n3, 0, 0, []⟩ (.slice none 0 0)) * (Row 104 1 (.slice C k cc) k (gs.map fun x => ptrV x.1) * (FlsP gs * F))) w14 := hs
          replace hs := hs.drew
          revert hs
          generalize World.drew w14 = w8
          intro hs
          have HS8 := Lib.hid hs
          clear hs
          have c3 := HS8.out.cell 3
          have f3 := HS8.out.frozen 3
          go_upto_region 9 with (go_at_call 85; (with_reducible refine (HG4.out _ HS8.out.right.right.right).mono ?_); rintro y wx ⟨rfl, rfl⟩)
          have hs := HS8.out.set 3 (.int .u64 (n4 : Int))
          clear c3 f3
          revert hs
          generalize World.setCell _ _ _ = w15
          intro hs
          have HS15 : Hid (Sat w0 (Pt B14 110 (flC ⟨n1, n2, n3, n4, 0, []⟩ (.slice none 0 0)) * (Row 104 1 (.slice C k cc) k (gs.map fun x => ptrV x.1) * (FlsP gs * F))) w15) := Lib.hid hs
          clear hs
          go_wp2_with (at_builtin; refine wpList_appS rfl (.tmp 49) (.tmp 51) 100 rfl 104 i0 _ 1 8 Try.underlying100 hi0.out hz0.out hz1.out hz2.out rfl (by decide) (.slice C k cc) k (gs.map fun x => ptrV x.1) rfl w0 _ (by exact (HS15.out.alloc' _).up2) (some ⟨w15.heap.size, 0, none⟩) 1 1 [ptrV B14] rfl (lit_rdv _ _ _) rfl (fun u hu => by rw [List.mem_singleton.1 hu]; rfl) (by unfold maxLen; omega) (by omega) ?_; intro A16 c16 w16 hs; have HS16 := Lib.hid hs; clear hs)
          refine ⟨⟨k + 1, A16, c16, gs ++ [(B14, ⟨n1, n2, n3, n4, 0, []⟩)], hkn, rfl, by rw [HN1.out.1, HN1.out.2.1, HN1.out.2.2], by push_cast; rfl, ?_⟩, by simp [intOf]; omega⟩
          refine ⟨by rw [List.length_append, HD.out.1]; rfl, by rw [List.map_append, HRw.out, List.map_append, HD.out.2.1]; rfl, ?_⟩
          have h8 := (HS16.out.up2.rolNil [] (by simp)).row_nil 39 1
          have h9 := Sat.flI (ks := []) (f := ⟨n1, n2, n3, n4, 0, []⟩) (v := .slice none 0 0) (p := B14) rfl (h8.of (show _ = Pt B14 110 (flC ⟨n1, n2, n3, n4, 0, []⟩ (.slice none 0 0)) * (Row 39 1 (.slice none 0 0) 0 [] * (RoL [] * (Row 104 1 (.slice A16 (k + 1) c16) (k + 1) ((gs.map fun x => ptrV x.1) ++ [ptrV B14]) * (FlsP gs * F)))) by ac_rfl))
          rw [List.map_append, fls_app, fls_one]
          exact h9.of (by show _ = Row _ 1 _ _ (_ ++ [ptrV B14]) * ((FlsP gs * FlP B14 ⟨n1, n2, n3, n4, 0, []⟩) * F); ac_rfl)
        · obtain rfl : k = n := by omega
          have hk2 : ¬ (k : Int) < k := by omega
          go_wp2_with fail
          go_ret3
          refine .inr ⟨turn, _, _, gs, HU.out, rfl, HD.out.2.1, ?_⟩
          rw [HD.out.1]
          exact HD.out.2.2
    · have HU : Hid (unsealB b = none) := by unfold Hid unsealB; rw [if_neg]; rintro ⟨_, h9⟩; rw [← HX.out] at h9; exact hx24 h9
      have hx25 : (24 : Int) < x.toNat := by omega
      go_wp2_with fail
      go_ret3
      exact .inl ⟨HU.out, rfl, HS.out⟩
end
end Go.Proofs.Ytjmapbhgjhlefaa
namespace Go.Proofs.Ytjmapbhgjhlefaa
open Go.RowKit
set_option linter.unusedVariables false
set_option maxRecDepth 100000

section
variable {w0 w : World} {F : SP} {d : Nat} {D : Dk}
/-- The head that counts among the first k. -/
def bestK (D : Dk) : Nat → Option Spc
  | 0 => none
  | k + 1 => bestH D (bestK D k) k
def ptrP : Option Nat → Value
  | some s => .pointer (some ⟨s, 0, none⟩)
  | none => .pointer none
def NoP : SP := fun _ => False
/-- A space in memory, or none. -/
def OptP (d : Nat) : Option Nat → Option Spc → SP
  | some s, some S => SpaceP s d S
  | none, none => Emp
  | _, _ => NoP
theorem Sat.row_rbX {n : Nat} {A : Option Addr} {c : Nat} {l : List UInt8} (h : Sat w0 (Row 5 1 (.slice A n c) n (l.map bv) * F) w) : Sat w0 (Rb A l * F) w := by
  have h2 := h.row_rol
  rw [rb_rol (A, c, l)]
  exact h2
theorem Sat.no (h : Sat w0 (NoP * F) w) : False := by
  obtain ⟨c, x, h1, a, g, h2, h3, h4, h5⟩ := h
  exact h4
theorem opt_none {p : Option Nat} (h : Sat w0 (OptP d p none * F) w) : p = none := by
  cases p with
  | none => rfl
  | some s => exact h.no.elim
theorem opt_some {p : Option Nat} {S : Spc} (h : Sat w0 (OptP d p (some S) * F) w) : ∃ s, p = some s := by
  cases p with
  | none => exact h.no.elim
  | some s => exact ⟨s, rfl⟩
/-- What is read without an error is a whole block. -/
theorem Sat.read_len (h : Sat w0 (Disk d D * F) w) (i : Int) (h0 : (D.read i).2 = 0) (ho : D.off = false) (hi : 0 ≤ i ∧ i < D.cells.length) : (D.read i).1.length = 512 := by
  obtain ⟨C, cc, M, nm, vp, cs, ps, hr, hn, hs⟩ := h.disk
  have ha : D.ask i = 0 := Dk.ask_ok ho hi.1 hi.2
  unfold Dk.read at h0 ⊢
  rw [if_pos ha] at h0 ⊢
  cases hl : D.last i with
  | some b =>
    simp only
    unfold Dk.last at hl
    obtain ⟨x, h1, h2⟩ := Option.map_eq_some_iff.1 hl
    have h3 := List.mem_reverse.1 (List.mem_of_find?_eq_some h1)
    rw [hr.pend] at h3
    obtain ⟨y, hy, rfl⟩ := List.mem_map.1 h3
    rw [← h2]
    exact (hr.fitp y hy).2.1
  | none =>
    rw [hl] at h0
    simp only at h0 ⊢
    obtain ⟨j, rfl⟩ : ∃ j : Nat, i = j := ⟨i.toNat, by omega⟩
    rw [Int.toNat_natCast, List.getElem?_eq_getElem (by omega)] at h0 ⊢
    have hm : D.cells[j] ∈ cs.map fun x => (x.1.2.2, x.2) := by rw [← hr.cells]; exact List.getElem_mem _
    obtain ⟨y, hy, e⟩ := List.mem_map.1 hm
    rw [← e] at h0 ⊢
    simp only at h0 ⊢
    cases ht : y.2 with
    | true => rw [ht] at h0; simp at h0
    | false =>
      simp only [Bool.false_eq_true, if_false]
      rcases (hr.fitc y hy).2 with e1 | e1
      · rw [if_pos e1]; simp
      · rw [if_neg (by intro e2; rw [e2] at e1; simp at e1)]
        exact e1
theorem read_codes (D : Dk) (i : Int) (ho : D.off = false) (hi : 0 ≤ i ∧ i < D.cells.length) : (D.read i).2 = 0 ∨ (D.read i).2 = 24 := by
  have ha : D.ask i = 0 := Dk.ask_ok ho hi.1 hi.2
  unfold Dk.read
  rw [if_pos ha]
  cases D.last i with
  | some b => exact .inl rfl
  | none =>
    simp only
    split
    · rename_i b t _
      cases t
      · left; simp only [Bool.false_eq_true, if_false]; split <;> rfl
      · right; rfl
    · exact .inl rfl
theorem unsealB_small {b : List UInt8} {turn : Nat} {hs : List Hd} (h : unsealB b = some (turn, hs)) : hs.length ≤ 24 ∧ turn < 18446744073709551616 ∧ ∀ x ∈ hs, HdOk x := by
  have hrow : ∀ (n : Nat) (r : List UInt8), (rowsH n r).length = n ∧ ∀ x ∈ rowsH n r, HdOk x := fun n => by
    induction n with
    | zero => intro r; exact ⟨rfl, by simp [rowsH]⟩
    | succ n ih =>
      intro r
      obtain ⟨h1, h2⟩ := ih (r.drop 20)
      refine ⟨by show (rowsH n (r.drop 20)).length + 1 = _; rw [h1], fun x hx => ?_⟩
      rcases List.mem_cons.1 (show x ∈ hdOf r :: rowsH n (r.drop 20) from hx) with rfl | hx
      · exact hdOf_small r
      · exact h2 x hx
  unfold unsealB at h
  split at h
  · rename_i h1
    injection h with h
    injection h with h2 h3
    obtain ⟨h4, h5⟩ := hrow (b.getD 12 0).toNat (b.drop 13)
    rw [← h3]
    exact ⟨by rw [h4]; exact h1.2, by rw [← h2]; exact getN_lt64 _ (by simp; omega), h5⟩
  · cases h
def RdX (w0 : World) (F : SP) (d : Nat) (D : Dk) (e : Ending) (w' : World) : Prop :=
  ∃ p, e = .returned (.tuple #[ptrP p, .int .i64 (readX D).2]) ∧ Sat w0 (OptP d p (readX D).1 * (Disk d D * F)) w'
set_option maxHeartbeats 4000000 in
theorem readS_any (h : Sat w0 (Disk d D * F) w) (h2 : 2 ≤ D.cells.length) (hN : D.cells.length ≤ 65536) :
    Calls Try.prog 55 #[.pointer (some ⟨d, 0, none⟩)] w (RdX w0 F d D) := by
  have HS := Lib.hid h
  have HN := Lib.hid hN
  by_cases ho : D.off = true
  · have HRd := Lib.hid (read_any d D 0 w0 w F h)
    have HR : Hid (D.read ((0 : Nat) : Int) = ([], 21)) := read_off D _ ho
    have HX : Hid (readX D = (none, 21)) := by unfold Hid readX; rw [if_pos ho]
    clear h ho
    go_enter Try.func55, Try.ntmps55
    go_wp2_with fail
    go_loopw [4, 11] (fun sv iv wr => sv = .pointer none ∧ iv = .int .i64 0 ∧ wr = w) (fun _ iv _ => 0)
    case atStart => exact ⟨rfl, rfl, rfl⟩
    case round =>
      obtain ⟨rfl, rfl, rfl⟩ := hrel
      go_wp2_with (go_at_call 81; (with_reducible refine HRd.out.mono ?_); rintro e w2 ⟨v, rfl, hs⟩; rw [show (D.read 0).2 = 21 from congrArg Prod.snd HR.out]; have HS2 := Lib.hid hs; clear hs)
      go_ret2
      refine ⟨none, ?_, ?_⟩
      · rw [HX.out]; rfl
      · rw [HX.out]
        exact HS2.out.right.of (emp_star _).symm
  · have ho' : D.off = false := by simpa using ho
    have HX : Hid (readX D = (bestK D 2, 0)) := by unfold Hid readX; rw [if_neg ho]; rfl
    have HO := Lib.hid ho'
    have HC := Lib.hid h2
    clear h ho ho' h2 hN
    go_enter Try.func55, Try.ntmps55
    go_wp2_with fail
    go_loopw [4, 11] (fun sv iv wr => ∃ (k : Nat) (p : Option Nat), k ≤ 2 ∧ iv = .int .i64 (k : Int) ∧ sv = ptrP p ∧ Hid (Sat w0 (OptP d p (bestK D k) * (Disk d D * F)) wr)) (fun _ iv _ => 2 - (intOf iv).toNat)
    case atStart => exact ⟨0, none, by omega, rfl, rfl, HS.out.of (emp_star _).symm⟩
    case round =>
      obtain ⟨k, p, hk, rfl, rfl, HD⟩ := hrel
      by_cases hlt : k < 2
      · have hk2 : (k : Int) < 2 := by omega
        have hkl : k < D.cells.length := by have := HC.out; omega
        have HRd := Lib.hid (read_any d D k w0 wr _ HD.out.up2)
        have HB : Hid (bestK D (k + 1) = bestH D (bestK D k) k) := rfl
        obtain ⟨r, hr⟩ : ∃ r, r = D.read k := ⟨_, rfl⟩
        have HRe := Lib.hid hr
        have HL : Hid (r.2 = 0 → r.1.length = 512) := fun h9 => by rw [hr] at h9 ⊢; exact HD.out.up2.read_len k h9 HO.out ⟨by omega, by omega⟩
        have hcode : r.2 = 0 ∨ r.2 = 24 := by rw [hr]; exact read_codes D k HO.out ⟨by omega, by omega⟩
        unfold ReadD at HRd
        rw [← hr] at HRd
        clear hr hkl hlt
        obtain ⟨b, e⟩ := r
        have hm : k + 1 ≤ 2 := by omega
        rcases hcode with h9 | h9
        · obtain rfl : e = 0 := h9
          have HU : Hid (bestK D (k + 1) = match unsealB b with | none => bestK D k | some (turn, hs) => if liesH D.cells.length hs = true ∧ newerH (bestK D k) turn = true then some ⟨k, turn, hs.map Hd.fl⟩ else bestK D k) := by
            unfold Hid
            rw [HB.out]
            unfold bestH
            rw [← HRe.out]
            rfl
          have hl : b.length = 512 := HL.out rfl
          have HRd2 : Hid (Calls Try.prog 81 #[.pointer (some ⟨d, 0, none⟩), .int .i64 (k : Int)] wr fun e w' => ∃ A c, e = .returned (.tuple #[.slice A 512 c, .int .i64 0]) ∧ 512 ≤ c ∧ c ≤ 9223372036854775807 ∧ Sat w0 (Rb A b * (Disk d D * (OptP d p (bestK D k) * F))) w') := HRd.out.mono fun e w' ⟨v, he, hs⟩ => by
            rw [hl] at hs
            obtain ⟨A, c, rfl, hc1, hc2⟩ := hs.row_sl
            exact ⟨A, c, he, hc1, by unfold maxLen at hc2; omega, hs.row_rbX⟩
          clear HB HRe HL HRd
          go_upto_region 9 with (go_at_call 81; (with_reducible refine HRd2.out.mono ?_); rintro e w2 ⟨A, c, rfl, hc1, hc2, hs⟩; have HS2 := Lib.hid hs; clear hs)
          have HUn := Lib.hid (unseal_any A c b HS2.out (fun W hW => hW.rd) hl hc1 hc2)
          have HBx : Hid (∀ turn hs, unsealB b = some (turn, hs) → hs.length ≤ 24 ∧ turn < 18446744073709551616 ∧ ∀ x ∈ hs, HdOk x) := fun _ _ h => unsealB_small h
          obtain ⟨o, hob⟩ : ∃ o, o = unsealB b := ⟨_, rfl⟩
          rw [← hob] at HUn HU HBx
          clear hob hl hc1 hc2
          go_upto_region 10 with (go_at_call 82; (with_reducible refine HUn.out.mono ?_); rintro e w3 hu; rcases hu with ⟨rfl, rfl, hs⟩ | ⟨turn, hds, V, gs, rfl, rfl, hg, hs⟩)
          · have HS3 := Lib.hid hs
            clear hs
            go_wp2_with fail
            go_roundw
            · exact ⟨k + 1, p, hm, by push_cast; rfl, rfl, by rw [HU.out]; exact (HS3.out.right).up2⟩
            · simp [intOf]; omega
          · obtain ⟨A2, c2, rfl, hd1, hd2⟩ := hs.row_sl
            obtain ⟨bx1, bx2, bx3⟩ := HBx.out turn hds rfl
            have hgl : gs.length = hds.length := by have := congrArg List.length hg; simpa using this
            have hgh : gs.map (fun x => x.2.hd) = hds := by
              have h9 := congrArg (List.map Fl.hd) hg
              rw [List.map_map, List.map_map] at h9
              have h10 : hds.map (Fl.hd ∘ Hd.fl) = hds := by
                have : (Fl.hd ∘ Hd.fl) = id := funext fun x => rfl
                rw [this, List.map_id]
              rw [h10] at h9
              exact h9
            have hs2 := hs.up2
            have HLi := lies_any (gs := gs) (D := D) (d := d) (w0 := w0) (w := w3) (F := Row 104 1 (.slice A2 gs.length c2) gs.length (gs.map fun x => ptrV x.1) * (Rb A b * (OptP d p (bestK D k) * F))) A2 c2 (hs.of (by ac_rfl)) (fun W hW => RdV.of_own (hW.up3.row_own)) (by omega) (fun x hx => by
              have h9 : x.2.hd ∈ gs.map (fun x => x.2.hd) := List.mem_map_of_mem hx
              rw [hgh] at h9
              have h10 := bx3 _ h9
              exact ⟨h10.2.1, h10.2.2.1⟩) HN.out
            rw [hgh] at HLi
            have HLi := Lib.hid HLi
            have HG := Lib.hid hg
            obtain ⟨LB, hLB⟩ : ∃ LB, LB = liesH D.cells.length hds := ⟨_, rfl⟩
            rw [← hLB] at HLi HU
            have HT := Lib.hid bx2
            clear hs hs2 hg hgh hd1 hd2 hLB bx1 bx2 bx3 hgl HBx HUn HRd2
            cases LB
            · go_wp2_with (go_at_call 83; (with_reducible refine HLi.out.mono ?_); rintro e w4 ⟨rfl, hs⟩; have HS4 := Lib.hid hs; clear hs)
              go_roundw
              · refine ⟨k + 1, p, hm, by push_cast; rfl, rfl, ?_⟩
                rw [HU.out, if_neg (by simp)]
                exact HS4.out.right.up2.right.up2.right.up2
              · simp [intOf]; omega
            · have HNew : Hid (∀ W s, Sat w0 (Pt s 102 #[ptrV d, .int .i64 (k : Int), .int .u64 (turn : Int), .slice A2 gs.length c2] * (FlsP gs * (Disk d D * (Row 104 1 (.slice A2 gs.length c2) gs.length (gs.map fun x => ptrV x.1) * (Rb A b * (OptP d p (bestK D k) * F)))))) W → Sat w0 (SpaceP s d ⟨k, turn, hds.map Hd.fl⟩ * (Disk d D * F)) W) := fun W s hW => by
                refine Sat.spaceI (S := ⟨k, turn, hds.map Hd.fl⟩) (ps := gs) (v := .slice A2 gs.length c2) HG.out ?_
                refine (hW.up5.right.up5.right).of ?_
                unfold SpaceC
                ac_rfl
              obtain ⟨o, ho⟩ : ∃ o, o = bestK D k := ⟨_, rfl⟩
              rw [← ho] at HU HD HLi HNew
              clear ho
              cases o with
              | none =>
                obtain rfl := opt_none HD.out
                go_wp2_with (go_at_call 83; (with_reducible refine HLi.out.mono ?_); rintro e w4 ⟨rfl, hs⟩; have HS4 := Lib.hid hs; clear hs; unfold ptrP)
                go_roundw
                · refine ⟨k + 1, some w4.heap.size, hm, by push_cast; rfl, rfl, ?_⟩
                  rw [HU.out, if_pos (by first | exact ⟨rfl, rfl⟩ | exact ⟨trivial, rfl⟩)]
                  exact HNew.out _ _ (HS4.out.allocPt _ _)
                · simp [intOf]; omega
              | some S0 =>
                obtain ⟨s0, rfl⟩ := opt_some HD.out
                by_cases ht : (S0.turn : Int) < turn
                · go_wp2_with (go_at_call 83; (with_reducible refine HLi.out.mono ?_); rintro e w4 ⟨rfl, hs⟩; have HS4 := Lib.hid hs; clear hs; unfold ptrP; have g2 : w4.cell? ⟨s0, 2, none⟩ = some (.int .u64 (S0.turn : Int)) := by (obtain ⟨v, ps, _, h9⟩ := (HS4.out.up5).space; exact (h9.of space_d).cell 2))
                  go_roundw
                  · refine ⟨k + 1, some w4.heap.size, hm, by push_cast; rfl, rfl, ?_⟩
                    rw [HU.out, if_pos (by first | exact ⟨rfl, decide_eq_true (by omega)⟩ | exact ⟨trivial, decide_eq_true (by omega)⟩)]
                    exact HNew.out _ _ (HS4.out.allocPt _ _)
                  · simp [intOf]; omega
                · go_wp2_with (go_at_call 83; (with_reducible refine HLi.out.mono ?_); rintro e w4 ⟨rfl, hs⟩; have HS4 := Lib.hid hs; clear hs; unfold ptrP; have g2 : w4.cell? ⟨s0, 2, none⟩ = some (.int .u64 (S0.turn : Int)) := by (obtain ⟨v, ps, _, h9⟩ := (HS4.out.up5).space; exact (h9.of space_d).cell 2))
                  go_roundw
                  · refine ⟨k + 1, some s0, hm, by push_cast; rfl, rfl, ?_⟩
                    rw [HU.out, if_neg (by rintro ⟨_, h9⟩; exact absurd (of_decide_eq_true h9) (by omega))]
                    exact HS4.out.right.up2.right.up2.right.up2
                  · simp [intOf]; omega
        · obtain rfl : e = 24 := h9
          have HU : Hid (bestK D (k + 1) = bestK D k) := by
            unfold Hid
            rw [HB.out]
            unfold bestH
            rw [← HRe.out]
            rfl
          have HRd2 : Hid (Calls Try.prog 81 #[.pointer (some ⟨d, 0, none⟩), .int .i64 (k : Int)] wr fun e w' => ∃ v, e = .returned (.tuple #[v, .int .i64 24]) ∧ Sat w0 (Disk d D * (OptP d p (bestK D k) * F)) w') := HRd.out.mono fun e w' ⟨v, he, hs⟩ => ⟨v, he, hs.right⟩
          clear HB HRe HL HRd
          go_wp2_with (go_at_call 81; (with_reducible refine HRd2.out.mono ?_); rintro e w2 ⟨v, rfl, hs⟩; have HS2 := Lib.hid hs; clear hs)
          go_roundw
          · exact ⟨k + 1, p, hm, by push_cast; rfl, rfl, by rw [HU.out]; exact HS2.out.up2⟩
          · simp [intOf]; omega
      · have HK : Hid (k = 2) := by unfold Hid; omega
        have hk2 : ¬ (k : Int) < 2 := by omega
        go_wp2_with fail
        go_ret2
        refine ⟨p, ?_, ?_⟩
        · rw [HX.out]; rfl
        · rw [HX.out]
          have h9 := HD.out
          rw [HK.out] at h9
          exact h9
end
end Go.Proofs.Ytjmapbhgjhlefaa
namespace Go.Proofs.Ytjmapbhgjhlefaa
open Go.RowKit
set_option linter.unusedVariables false
set_option maxRecDepth 100000

section
variable {w0 w : World} {F : SP} {d : Nat} {D : Dk}
/-- What is read of heads is small. -/
structure SpcOk (n : Nat) (S : Spc) : Prop where
  slot : S.slot < 2
  turn : S.turn < 18446744073709551616
  count : S.files.length ≤ 24
  bare : ∀ f ∈ S.files, f.frames = [] ∧ f.life = 0
  each : ∀ f ∈ S.files, HdOk f.hd ∧ 2 ≤ f.first ∧ 1 ≤ f.blocks ∧ (f.first + f.blocks ≤ n)
theorem bestH_ok {o : Option Spc} {k : Nat} (hk : k < 2) (ho : ∀ S, o = some S → SpcOk D.cells.length S) : ∀ S, bestH D o k = some S → SpcOk D.cells.length S := fun S h => by
  unfold bestH at h
  split at h
  · exact ho S h
  · split at h
    · exact ho S h
    · rename_i turn hs e
      split at h
      · rename_i e2
        injection h with h
        obtain ⟨h1, h2, h3⟩ := unsealB_small e
        have hl := e2.1
        unfold liesH at hl
        rw [List.all_eq_true] at hl
        subst h
        refine ⟨hk, h2, by rw [List.length_map]; exact h1, fun f hf => ?_, fun f hf => ?_⟩
        · obtain ⟨x, hx, rfl⟩ := List.mem_map.1 hf
          exact ⟨rfl, rfl⟩
        · obtain ⟨x, hx, rfl⟩ := List.mem_map.1 hf
          have h5 := of_decide_eq_true (hl x hx)
          have : x.fl.hd = x := rfl
          refine ⟨by rw [this]; exact h3 x hx, h5.1, h5.2.1, ?_⟩
          show x.first + x.blocks ≤ _
          omega
      · exact ho S h
theorem readX_ok {S : Spc} (h : (readX D).1 = some S) : SpcOk D.cells.length S := by
  unfold readX at h
  split at h
  · cases h
  · exact bestH_ok (by omega) (bestH_ok (by omega) (fun S h => by cases h)) S h
theorem readX_codes (D : Dk) : (readX D).2 = 0 ∨ (readX D).2 = 21 := by
  unfold readX
  split
  · exact .inr rfl
  · exact .inl rfl
theorem readX_off (h : (readX D).2 = 21) : (readX D).1 = none := by
  unfold readX at h ⊢
  split
  · rfl
  · rename_i h1
    rw [if_neg h1] at h
    cases h
theorem put_cases (S : Spc) (D : Dk) (fs : List Fl) (R1 R2 : Dk × Int) (h1 : R1 = D.write (slotN S.slot : Int) (sealB (turnN S.turn) (fs.map Fl.hd))) (h2 : R2 = R1.1.flush) :
    (R1.2 ≠ 0 → S.put fs D = (S, R1.1, R1.2)) ∧ (R1.2 = 0 → R2.2 ≠ 0 → S.put fs D = (S, R2.1, R2.2)) ∧ (R1.2 = 0 → R2.2 = 0 → S.put fs D = (⟨slotN S.slot, turnN S.turn, fs⟩, R2.1, 0)) := by
  have e : S.put fs D = if R1.2 ≠ 0 then (S, R1.1, R1.2) else if R2.2 ≠ 0 then (S, R2.1, R2.2) else (⟨slotN S.slot, turnN S.turn, fs⟩, R2.1, 0) := by
    subst h2; subst h1; rfl
  rw [e]
  exact ⟨fun h => if_pos h, fun h h' => by rw [if_neg (by simpa using h), if_pos h'], fun h h' => by rw [if_neg (by simpa using h), if_neg (by simpa using h')]⟩
/-- What put leaves, said by the plain words. -/
def PutY (w0 : World) (F : SP) (s d : Nat) (S : Spc) (v V : Value) (gs : List (Nat × Fl)) (r : Spc × Dk × Int) (e : Ending) (w' : World) : Prop :=
  e = .returned (.int .i64 r.2.2) ∧ (r.2.2 ≠ 0 → r.1 = S ∧ Sat w0 (Pt s 102 #[ptrV d, .int .i64 (S.slot : Int), .int .u64 (S.turn : Int), v] * (Row 104 1 V gs.length (gs.map fun x => ptrV x.1) * (FlsP gs * (Disk d r.2.1 * F)))) w') ∧
    (r.2.2 = 0 → r.1.files = gs.map (·.2) ∧ Sat w0 (SpaceC s d r.1.slot r.1.turn V gs * (Disk d r.2.1 * F)) w')
theorem putX_put {S : Spc} {s : Nat} {v V : Value} {gs : List (Nat × Fl)} {e : Ending} {w' : World} (h : PutX w0 F s d S.slot S.turn v V gs (D.write (slotN S.slot : Int) (sealB (turnN S.turn) (gs.map fun x => x.2.hd))) (D.write (slotN S.slot : Int) (sealB (turnN S.turn) (gs.map fun x => x.2.hd))).1.flush e w') :
    PutY w0 F s d S v V gs (S.put (gs.map (·.2)) D) e w' := by
  have em : gs.map (fun x => x.2.hd) = (gs.map (·.2)).map Fl.hd := by rw [List.map_map]; rfl
  obtain ⟨c1, c2, c3⟩ := put_cases S D (gs.map (·.2)) _ _ rfl rfl
  rw [em] at h
  rcases h with ⟨h1, h2, h3⟩ | ⟨h1, h2, h3, h4⟩ | ⟨h1, h2, h3, h4⟩
  · rw [c1 h1]
    exact ⟨h2, fun _ => ⟨rfl, h3⟩, fun h9 => absurd h9 h1⟩
  · rw [c2 h1 h2]
    exact ⟨h3, fun _ => ⟨rfl, h4⟩, fun h9 => absurd h9 h2⟩
  · rw [c3 h1 h2]
    refine ⟨h3, fun h9 => absurd rfl h9, fun _ => ⟨rfl, h4.of ?_⟩⟩
    rw [space_d]
    rfl
set_option maxHeartbeats 2000000 in
theorem format_any (h : Sat w0 (Disk d D * F) w) (h2 : 2 ≤ D.cells.length) (hN : D.cells.length ≤ 65536) (hw1 : D.writes ≤ 1000000000) (hw2 : D.pend.length ≤ 999999999) (hw3 : D.armed ≤ 9223372036854775807) :
    Calls Try.prog 15 #[.pointer (some ⟨d, 0, none⟩)] w fun e w' => e = .returned (.int .i64 (formatX D).2) ∧ Sat w0 (Disk d (formatX D).1 * F) w' := by
  have HRd := Lib.hid (readS_any h h2 hN)
  have HN := Lib.hid (And.intro hN (And.intro hw1 (And.intro hw2 hw3)))
  clear h h2 hN hw1 hw2 hw3
  rcases readX_codes D with hc | hc
  · have HF : Hid (formatX D = (((((readX D).1).getD ⟨0, 0, []⟩).put [] D).2.1, ((((readX D).1).getD ⟨0, 0, []⟩).put [] D).2.2)) := by
      unfold Hid formatX
      rw [if_neg (by rw [hc]; simp)]
    have HOk : Hid (∀ S, (readX D).1 = some S → SpcOk D.cells.length S) := fun S h => readX_ok h
    unfold RdX at HRd
    rw [hc] at HRd
    clear hc
    obtain ⟨o, ho⟩ : ∃ o, o = (readX D).1 := ⟨_, rfl⟩
    rw [← ho] at HRd HF HOk
    clear ho
    have HPut : Hid (∀ (S : Spc) (s : Nat) (v : Value) W, S.slot < 2 → S.turn < 18446744073709551616 → Sat w0 (Pt s 102 #[ptrV d, .int .i64 (S.slot : Int), .int .u64 (S.turn : Int), v] * (Disk d D * F)) W →
        Calls Try.prog 56 #[.pointer (some ⟨s, 0, none⟩), .slice none 0 0] W fun e w' => e = .returned (.int .i64 (S.put [] D).2.2) ∧ Sat w0 (Disk d (S.put [] D).2.1 * F) w') := fun S s v W h1 h2 hW => by
      have h3 := ((hW.up2.of (show _ = Emp * (Disk d D * (Pt s 102 #[ptrV d, .int .i64 (S.slot : Int), .int .u64 (S.turn : Int), v] * F)) by rw [emp_star])).row_nil 104 1)
      have h4 := put_any (s := s) (d := d) (w0 := w0) (w := W) (slot := S.slot) (turn := S.turn) (v := v) (V := .slice none 0 0) (gs := []) (F := F) (D := D) (h3.of (by show _ = Pt _ _ _ * (Row _ _ _ 0 [] * (Emp * _)); ac_rfl)) (by simp) h1 h2 (by simp) HN.out.2.1 HN.out.2.2.1 HN.out.2.2.2
      refine h4.mono fun e w' h5 => ?_
      obtain ⟨k1, k2, k3⟩ := putX_put h5
      refine ⟨k1, ?_⟩
      by_cases h9 : (S.put ((List.map (fun x => x.2) ([] : List (Nat × Fl)))) D).2.2 = 0
      · exact (k3 h9).2.right
      · exact (k2 h9).2.right.right.right
    cases o with
    | none =>
      go_enter Try.func15, Try.ntmps15
      go_upto_region 2 with (go_at_call 55; (with_reducible refine HRd.out.mono ?_); rintro e w2 ⟨p, rfl, hs⟩; obtain rfl := opt_none hs; unfold ptrP; have HS2 := Lib.hid hs; clear hs)
      go_upto_region 6 with fail
      have hs := HS2.out.right.allocPt 102 #[.pointer (some ⟨d, 0, none⟩), .int .i64 0, .int .u64 0, .slice none 0 0]
      have HP := Lib.hid (HPut.out ⟨0, 0, []⟩ _ _ _ (by show 0 < 2; omega) (by show 0 < _; omega) hs)
      clear hs
      go_wp2_with (go_at_call 56; (with_reducible refine HP.out.mono ?_); rintro e w3 ⟨rfl, hs⟩; have HS3 := Lib.hid hs; clear hs)
      go_ret
      rw [HF.out]
      exact ⟨rfl, HS3.out⟩
    | some S =>
      have hok := HOk.out S rfl
      have HSl := Lib.hid hok.slot
      have HTu := Lib.hid hok.turn
      clear hok
      go_enter Try.func15, Try.ntmps15
      go_upto_region 2 with (go_at_call 55; (with_reducible refine HRd.out.mono ?_); rintro e w2 ⟨p, rfl, hs⟩; obtain ⟨s, rfl⟩ := opt_some hs; unfold ptrP; obtain ⟨v, ps, _, h9⟩ := hs.space; have HP := Lib.hid (HPut.out S s v w2 HSl.out HTu.out ((h9.of space_d).up3.right.up2.right)); clear hs h9)
      go_wp2_with (go_at_call 56; (with_reducible refine HP.out.mono ?_); rintro e w3 ⟨rfl, hs⟩; have HS3 := Lib.hid hs; clear hs)
      go_ret
      rw [HF.out]
      exact ⟨rfl, HS3.out⟩
  · have HF : Hid (formatX D = (D, 21)) := by unfold Hid formatX; rw [if_pos hc]
    have hn := readX_off hc
    unfold RdX at HRd
    rw [hc, hn] at HRd
    clear hc hn
    go_enter Try.func15, Try.ntmps15
    go_wp2_with (go_at_call 55; (with_reducible refine HRd.out.mono ?_); rintro e w2 ⟨p, rfl, hs⟩; obtain rfl := opt_none hs; unfold ptrP; have HS2 := Lib.hid hs; clear hs)
    go_ret
    rw [HF.out]
    exact ⟨rfl, HS2.out.right⟩
end
end Go.Proofs.Ytjmapbhgjhlefaa
