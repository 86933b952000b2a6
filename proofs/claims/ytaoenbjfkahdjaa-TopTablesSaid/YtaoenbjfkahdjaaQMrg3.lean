/- merge.Thin. (Written by gen_mrg3.py.) -/
import Derived.Deep.CutBlock
import Derived.Test.YtaoenbjfkahdjaaQMrg2
namespace Go.Proofs.Ytaoenbjfkahdjaa
open Go.RowKit
set_option linter.unusedVariables false
set_option maxRecDepth 100000

theorem sortedB_of {L : List Ent} (h : L.Pairwise LTE) : sortedB L = true := (sortedB_iff L).2 fun i hi => List.pairwise_iff_getElem.1 h i (i + 1) (by omega) hi (by omega)
/-- How many entries the first key has. -/
def grpN : List En → Nat
  | [] => 0
  | e :: T => 1 + (T.takeWhile fun x => sameK e.ent x.ent).length
theorem grp_cons (e : En) (T : List En) : grpN (e :: T) = (T.takeWhile fun x => sameK e.ent x.ent).length + 1 := Nat.add_comm 1 _
theorem takeW_map (f : Ent → Bool) : ∀ T : List En, (T.takeWhile fun x => f x.ent).map En.ent = (T.map En.ent).takeWhile f
  | [] => rfl
  | x :: T => by
    rw [List.takeWhile_cons, List.map_cons, List.takeWhile_cons]
    split
    · rw [List.map_cons, takeW_map f T]
    · rfl
theorem takeW_take {α : Type} (f : α → Bool) : ∀ T : List α, T.take (T.takeWhile f).length = T.takeWhile f ∧ T.drop (T.takeWhile f).length = T.dropWhile f
  | [] => ⟨rfl, rfl⟩
  | x :: T => by
    rw [List.takeWhile_cons, List.dropWhile_cons]
    split
    · rw [List.length_cons, List.take_succ_cons, List.drop_succ_cons, (takeW_take f T).1, (takeW_take f T).2]
      exact ⟨rfl, rfl⟩
    · exact ⟨rfl, rfl⟩
theorem dropW_map (f : Ent → Bool) : ∀ T : List En, (T.dropWhile fun x => f x.ent).map En.ent = (T.map En.ent).dropWhile f
  | [] => rfl
  | x :: T => by
    rw [List.dropWhile_cons, List.map_cons, List.dropWhile_cons]
    split
    · exact dropW_map f T
    · rfl
theorem grp_le : ∀ {R : List En}, R ≠ [] → 1 ≤ grpN R ∧ grpN R ≤ R.length
  | [], h => absurd rfl h
  | e :: T, _ => by
    rw [grp_cons]
    have := (List.takeWhile_sublist (l := T) (fun x => sameK e.ent x.ent)).length_le
    rw [List.length_cons]
    omega
theorem grp_thin (b : Bool) (snaps : List Int) {R : List En} (h : R ≠ []) : thinE b snaps (R.map En.ent) = keptB b snaps ((R.take (grpN R)).map En.ent) ++ thinE b snaps ((R.drop (grpN R)).map En.ent) := by
  cases R with
  | nil => exact absurd rfl h
  | cons e T =>
    obtain ⟨h1, h2⟩ := takeW_take (fun x : En => sameK e.ent x.ent) T
    rw [grp_cons, List.take_succ_cons, List.drop_succ_cons, h1, h2, List.map_cons, thin_cons, List.map_cons, takeW_map, dropW_map]
theorem grp_in {R : List En} {i : Nat} (hi : i < R.length) (hg : i < grpN R) : R[i].key.2.2 = (R[0]'(by omega)).key.2.2 := by
  cases R with
  | nil => simp at hi
  | cons e T =>
    cases i with
    | zero => rfl
    | succ i =>
      rw [grp_cons] at hg
      have hi2 : i < T.length := by simpa using hi
      have h1 : i < (T.takeWhile fun x => sameK e.ent x.ent).length := by omega
      have h2 : (T.takeWhile fun x => sameK e.ent x.ent)[i] = T[i] := by
        have h3 := (takeW_take (fun x : En => sameK e.ent x.ent) T).1
        have h4 : (T.take (T.takeWhile fun x => sameK e.ent x.ent).length)[i]'(by rw [List.length_take]; omega) = T[i] := List.getElem_take
        simp only [h3] at h4
        exact h4
      have h5 := takeW_mem (f := fun x : En => sameK e.ent x.ent) (List.getElem_mem h1)
      rw [h2] at h5
      exact of_decide_eq_true h5
theorem grp_out {R : List En} (hg : grpN R < R.length) : (R[grpN R]).key.2.2 ≠ (R[0]'(by omega)).key.2.2 := by
  cases R with
  | nil => simp at hg
  | cons e T =>
    have hlen : (T.takeWhile fun x => sameK e.ent x.ent).length < T.length := by rw [grp_cons, List.length_cons] at hg; omega
    have h2 := (takeW_take (fun x : En => sameK e.ent x.ent) T).2
    have h3 : T.dropWhile (fun x => sameK e.ent x.ent) ≠ [] := by
      intro h; rw [h] at h2; have := congrArg List.length h2; rw [List.length_drop] at this; simp at this; omega
    have h4 := List.head_dropWhile_not (p := fun x : En => sameK e.ent x.ent) (l := T) h3
    have h5 : (T.dropWhile fun x => sameK e.ent x.ent).head h3 = T[(T.takeWhile fun x => sameK e.ent x.ent).length] := by
      simp only [← h2]
      rw [List.head_drop]
    rw [h5] at h4
    have e1 : grpN (e :: T) = (T.takeWhile fun x => sameK e.ent x.ent).length + 1 := grp_cons e T
    simp only [e1, List.getElem_cons_succ]
    exact of_decide_eq_false h4
theorem desc_of {es : List En} {n : Nat} (hs : (es.map En.ent).Pairwise LTE) (hk : ∀ i (h : i < es.length), i < n → es[i].key.2.2 = (es[0]'(by omega)).key.2.2) : descS (es.take n) := fun a b ha hb hab => by
  have ha2 : a < es.length := by rw [List.length_take] at ha; omega
  have hb2 : b < es.length := by rw [List.length_take] at hb; omega
  have hbn : b < n := by rw [List.length_take] at hb; omega
  rw [List.getElem_take, List.getElem_take]
  have h1 := List.pairwise_iff_getElem.1 hs a b (by simpa using ha2) (by simpa using hb2) hab
  simp only [List.getElem_map] at h1
  rcases lte_iff.1 h1 with h2 | ⟨_, h2⟩
  · exact absurd ((hk a ha2 (by omega)).trans (hk b hb2 hbn).symm) (kcb_ne h2)
  · exact h2
/-- What holds ahead of a key's entries. -/
structure ThS (w : World) (b : Bool) (snaps : List Int) (es : List En) (k : Nat) (A : Option Addr) (c : Nat) (ts : List En) (TA : Option Addr) (tc : Nat) (wr : World) : Prop where
  rd : RdV w A ((es.drop k).flatMap enV)
  cap : (es.drop k).length ≤ c ∧ c ≤ maxLen
  eq : ts.map En.ent ++ thinE b snaps ((es.drop k).map En.ent) = thinE b snaps (es.map En.ent)
  few : ts.length ≤ k
  sat : Sat w (Row 34 4 (.slice TA ts.length tc) ts.length (ts.flatMap enV) * (OwnE ts * Emp)) wr
def lenOf (v : Value) : Nat := match v with | .slice _ n _ => n | _ => 0
/-- What Thin tells. -/
def ThinT (w : World) (L : List Ent) (x : Ending) (w' : World) : Prop := ∃ ts A c, x = .returned (.tuple #[.slice A ts.length c, .int .i64 0]) ∧ ts.map En.ent = L ∧ Sat w (Row 34 4 (.slice A ts.length c) ts.length (ts.flatMap enV) * (OwnE ts * Emp)) w'
set_option maxHeartbeats 8000000 in
theorem thin_any (b : Bool) (A : Option Addr) (c : Nat) (es : List En) (SA : Option Addr) (sc : Nat) (snaps : List Int) (w : World) (h : RdV w A (es.flatMap enV)) (hr : EnsR w es) (hc : es.length ≤ c) (hm : c ≤ maxLen) (hn : es.length ≤ 1000000) (hsz : ∀ e ∈ es, e.key.2.2.length ≤ 1000000000 ∧ e.value.2.2.length ≤ 1000000000)
    (hs : RdV w SA (snaps.map fun x => .int .i64 x)) (hsn : snaps.length ≤ 1000000) (hso : (es.map En.ent).Pairwise LTE) :
    Calls Try.prog 18 #[.slice A es.length c, .bool b, .slice SA snaps.length sc] w (ThinT w (thinE b snaps (es.map En.ent))) := by
  obtain ⟨i0, hi0, hz0, hz1, hz2⟩ := info_parts info_entry
  have Hi0 := Lib.hid hi0; have Hz0 := Lib.hid hz0; have Hz1 := Lib.hid hz1; have Hz2 := Lib.hid hz2
  have HR := Lib.hid hr; have HSz := Lib.hid hsz; have HSn := Lib.hid hs; have HSo := Lib.hid hso
  have HSt : Hid (ThS w b snaps es 0 A c [] none 0 w) := ⟨h, ⟨hc, hm⟩, rfl, Nat.le_refl _, ((Sat.start w).row_nil 34 4).of (by show _ = Row 34 4 (.slice none 0 0) 0 [] * (Emp * Emp); rw [emp_star])⟩
  have HSd : Hid (Calls Try.prog 49 #[.slice A es.length c] w fun e w' => e = .returned (.bool true) ∧ Chg No w w') := (sorted_any A c es w h hr hc hm).mono fun e w' ⟨h1, h2⟩ => ⟨by rw [h1, sortedB_of hso], h2⟩
  clear hi0 hz0 hz1 hz2 h hr hsz hs hso
  unfold maxLen at hm
  go_enter Try.func18, Try.ntmps18
  go_wp2_with (go_at_call 49; (with_reducible refine HSd.out.mono ?_); rintro x w1 ⟨rfl, k1⟩; have HK1 := Lib.hid k1; clear k1)
  go_loopw [0, 8] (fun lv ov wr => ∃ (k : Nat) (A' : Option Addr) (c' : Nat) (ts : List En) (TA : Option Addr) (tc : Nat), k ≤ es.length ∧ lv = .slice A' (es.length - k) c' ∧ ov = .slice TA ts.length tc ∧ Hid (ThS w b snaps es k A' c' ts TA tc wr)) (fun lv _ _ => lenOf lv)
  case atStart => exact ⟨0, A, c, [], none, 0, by omega, rfl, rfl, HSt.out.rd, HSt.out.cap, HSt.out.eq, HSt.out.few, HSt.out.sat.new HK1.out⟩
  case round =>
    obtain ⟨k, A', c', ts, TA, tc, hk, rfl, rfl, HD⟩ := hrel
    by_cases hlt : k < es.length
    · obtain ⟨R, hR⟩ : ∃ R, R = es.drop k := ⟨_, rfl⟩
      have hRl : R.length = es.length - k := by rw [hR, List.length_drop]
      have hR0 : R ≠ [] := by intro e; rw [e] at hRl; simp at hRl; omega
      have HRd : Hid (RdV w A' (R.flatMap enV)) := by rw [hR]; exact HD.out.rd
      have HRc : Hid (R.length ≤ c' ∧ c' ≤ maxLen) := by rw [hR]; exact HD.out.cap
      have HRr : Hid (EnsR w R) := by rw [hR]; exact fun e he => HR.out e (List.mem_of_mem_drop he)
      have HRz : Hid (∀ e ∈ R, e.key.2.2.length ≤ 1000000000 ∧ e.value.2.2.length ≤ 1000000000) := by rw [hR]; exact fun e he => HSz.out e (List.mem_of_mem_drop he)
      have HRs : Hid ((R.map En.ent).Pairwise LTE) := by rw [hR, List.map_drop]; exact HSo.out.drop
      have HRe : Hid (ts.map En.ent ++ thinE b snaps (R.map En.ent) = thinE b snaps (es.map En.ent)) := by rw [hR]; exact HD.out.eq
      have HRk : Hid (R = es.drop k) := hR
      have HTs : Hid (Sat w (Row 34 4 (.slice TA ts.length tc) ts.length (ts.flatMap enV) * (OwnE ts * Emp)) wr) := HD.out.sat
      have htk : ts.length ≤ k := HD.out.few
      obtain ⟨m, hm1⟩ : ∃ m, m = es.length - k := ⟨_, rfl⟩
      rw [← hm1] at hRl ⊢
      have hm0 : 0 < m := by omega
      have hmm : m ≤ 1000000 := by omega
      obtain ⟨g, hg⟩ : ∃ g, g = grpN R := ⟨_, rfl⟩
      obtain ⟨hg1, hg2⟩ := grp_le hR0
      rw [← hg, hRl] at hg2
      rw [← hg] at hg1
      have HG := Lib.hid hg
      have HMe := Lib.hid hm1
      have HRl := Lib.hid hRl
      obtain ⟨lb, lo, eA, hq⟩ := ents_at (HRd.out.new HTs.out.chg) (by omega)
      have HA := Lib.hid eA
      subst eA
      have hc1 : m ≤ c' := by have := HRc.out.1; omega
      have hc2 : c' ≤ 9223372036854775807 := HRc.out.2
      have hmi : 0 < (m : Int) := by omega
      clear hR hR0 hg hm1 HD hRl
      obtain ⟨wo, hwo⟩ : ∃ wo, wo = wr := ⟨_, rfl⟩
      have HWo := Lib.hid hwo
      clear hwo
      go_upto_block 2 with fail
      go_cut [9] (fun nv wx => nv = .int .i64 (g : Int) ∧ Hid (∃ q, wx = wo.drewN q))
      case first =>
        go_wp2_with fail
        go_loopw [9] (fun nv wr => ∃ n : Nat, 1 ≤ n ∧ n ≤ g ∧ nv = .int .i64 (n : Int) ∧ Hid (∃ q, wr = wo.drewN q)) (fun nv _ => m - (intOf nv).toNat)
        case atStart => exact ⟨1, by omega, by omega, rfl, 0, by rw [HWo.out]; rfl⟩
        case round =>
          obtain ⟨n, hn1, hng, rfl, HQ⟩ := hrel
          by_cases hnm : n < m
          · have hnl : n < R.length := by rw [HRl.out]; exact hnm
            have h0l : 0 < R.length := by omega
            obtain ⟨kn, hkn⟩ : ∃ kn, R[n].key = kn := ⟨_, rfl⟩
            obtain ⟨k0, hk0⟩ : ∃ k0, R[0].key = k0 := ⟨_, rfl⟩
            have y0 := (hq n hnl).1
            have y1 := (hq 0 h0l).1
            rw [Nat.zero_mul, Nat.add_zero] at y1
            unfold slv' at y0 y1
            rw [hkn] at y0
            rw [hk0] at y1
            have HKn : Hid (Rd (wr.drew) kn.1 kn.2.2) := by
              obtain ⟨q, e⟩ := HQ.out
              have := (HRr.out _ (List.getElem_mem hnl)).1.new HTs.out.chg
              rw [hkn] at this
              rw [e, HWo.out]
              exact (this.drewN q)
            have HK0 : Hid (Rd (wr.drew) k0.1 k0.2.2) := by
              obtain ⟨q, e⟩ := HQ.out
              have := (HRr.out _ (List.getElem_mem h0l)).1.new HTs.out.chg
              rw [hk0] at this
              rw [e, HWo.out]
              exact (this.drewN q)
            have HS0 : Hid (wr.drew.cell? ⟨lb, lo + n * 4, none⟩ = some (.slice kn.1 kn.2.2.length kn.2.1) ∧ wr.drew.cell? ⟨lb, lo, none⟩ = some (.slice k0.1 k0.2.2.length k0.2.1)) := by
              obtain ⟨q, e⟩ := HQ.out
              rw [e, HWo.out]
              exact ⟨y0, y1⟩
            have hnmi : (n : Int) < m := by omega
            by_cases hnn : n < g
            · have HEq : Hid (decide (kn.2.2 = k0.2.2) = true) := by
                have := grp_in hnl (by rw [← HG.out]; exact hnn)
                rw [hkn, hk0] at this
                exact decide_eq_true this
              clear y0 y1 hkn hk0
              go_upto_region 6 with fail
              refine wp_region_held_drew (S := fun w' => w'.cell? ⟨lb, lo + n * 4, none⟩ = some (.slice kn.1 kn.2.2.length kn.2.1) ∧ w'.cell? ⟨lb, lo, none⟩ = some (.slice k0.1 k0.2.2.length k0.2.1)) (by kernel_rfl) HS0.out ?_
              intro hS0
              refine rgn_take (i := 0) (v := ?rv1) rfl (by kernel_rfl) (by kernel_rfl) (by kernel_rfl) (fun _ _ _ h => h) (by rfl) ?rh1 (by assumption) ?rr1
              case rh1 => (intro w hSw; (try dsimp only at hSw); go_simp; try with_reducible rfl)
              simp only [Act.put, List.setIfInBounds_toArray, List.set_cons_zero, List.set_cons_succ]
              refine rgn_take (i := 1) (v := ?rv2) rfl (by kernel_rfl) (by kernel_rfl) (by kernel_rfl) (fun _ _ _ h => h) (by rfl) ?rh2 (by assumption) ?rr2
              case rh2 => (intro w hSw; (try dsimp only at hSw); go_simp; try with_reducible rfl)
              simp only [Act.put, List.setIfInBounds_toArray, List.set_cons_zero, List.set_cons_succ]
              refine rgn_take (i := 2) (v := ?rv3) rfl (by kernel_rfl) (by kernel_rfl) (by kernel_rfl) (fun _ _ _ h => h) (by rfl) ?rh3 (by assumption) ?rr3
              case rh3 => (intro w hSw; (try dsimp only at hSw); go_simp; try with_reducible rfl)
              simp only [Act.put, List.setIfInBounds_toArray, List.set_cons_zero, List.set_cons_succ]
              refine rgn_take (i := 3) (v := ?rv4) rfl (by kernel_rfl) (by kernel_rfl) (by kernel_rfl) (fun _ _ _ h => h) (by rfl) ?rh4 (by assumption) ?rr4
              case rh4 => (intro w hSw; (try dsimp only at hSw); go_simp; try with_reducible rfl)
              simp only [Act.put, List.setIfInBounds_toArray, List.set_cons_zero, List.set_cons_succ]
              refine rgn_take (i := 4) (v := ?rv5) rfl (by kernel_rfl) (by kernel_rfl) (by kernel_rfl) (fun _ _ _ h => h) (by rfl) ?rh5 (by assumption) ?rr5
              case rh5 => (intro w hSw; (try dsimp only at hSw); go_simp; try with_reducible rfl)
              simp only [Act.put, List.setIfInBounds_toArray, List.set_cons_zero, List.set_cons_succ]
              refine rgn_take (i := 5) (v := ?rv6) rfl (by kernel_rfl) (by kernel_rfl) (by kernel_rfl) (fun _ _ _ h => h) (by rfl) ?rh6 (by assumption) ?rr6
              case rh6 => (intro w hSw; (try dsimp only at hSw); go_simp; try with_reducible rfl)
              simp only [Act.put, List.setIfInBounds_toArray, List.set_cons_zero, List.set_cons_succ]
              refine rgn_take (i := 6) (v := ?rv7) rfl (by kernel_rfl) (by kernel_rfl) (by kernel_rfl) (fun _ _ _ h => h) (by rfl) ?rh7 (by assumption) ?rr7
              case rh7 => (intro w hSw; (try dsimp only at hSw); go_simp; try with_reducible rfl)
              simp only [Act.put, List.setIfInBounds_toArray, List.set_cons_zero, List.set_cons_succ]
              refine rgn_take (i := 7) (v := ?rv8) rfl (by kernel_rfl) (by kernel_rfl) (by kernel_rfl) (fun _ _ _ h => h) (by rfl) ?rh8 (by assumption) ?rr8
              case rh8 => (intro w hSw; (try dsimp only at hSw); go_simp; try with_reducible rfl)
              simp only [Act.put, List.setIfInBounds_toArray, List.set_cons_zero, List.set_cons_succ]
              refine rgn_take (i := 8) (v := ?rv9) rfl (by kernel_rfl) (by kernel_rfl) (by kernel_rfl) (fun _ _ _ h => h) (by rfl) ?rh9 (by assumption) ?rr9
              case rh9 => (intro w hSw; (try dsimp only at hSw); go_simp; try with_reducible rfl)
              simp only [Act.put, List.setIfInBounds_toArray, List.set_cons_zero, List.set_cons_succ]
              refine rgn_take (i := 9) (v := ?rv10) rfl (by kernel_rfl) (by kernel_rfl) (by kernel_rfl) (fun _ _ _ h => h) (by rfl) ?rh10 (by assumption) ?rr10
              case rh10 => (intro w hSw; (try dsimp only at hSw); go_simp; try with_reducible rfl)
              simp only [Act.put, List.setIfInBounds_toArray, List.set_cons_zero, List.set_cons_succ]
              refine rgn_take (i := 10) (v := ?rv11) rfl (by kernel_rfl) (by kernel_rfl) (by kernel_rfl) (fun _ _ _ h => h) (by rfl) ?rh11 (by assumption) ?rr11
              case rh11 => (intro w hSw; (try dsimp only at hSw); go_simp; try with_reducible rfl)
              simp only [Act.put, List.setIfInBounds_toArray, List.set_cons_zero, List.set_cons_succ]
              refine rgn_take (i := 11) (v := ?rv12) rfl (by kernel_rfl) (by kernel_rfl) (by kernel_rfl) (fun _ _ _ h => h) (by rfl) ?rh12 (by assumption) ?rr12
              case rh12 => (intro w hSw; (try dsimp only at hSw); go_simp; try with_reducible rfl)
              simp only [Act.put, List.setIfInBounds_toArray, List.set_cons_zero, List.set_cons_succ]
              refine rgn_take (i := 12) (v := ?rv13) rfl (by kernel_rfl) (by kernel_rfl) (by kernel_rfl) (fun _ _ _ h => h) (by rfl) ?rh13 (by assumption) ?rr13
              case rh13 => (intro w hSw; (try dsimp only at hSw); go_simp; try with_reducible rfl)
              simp only [Act.put, List.setIfInBounds_toArray, List.set_cons_zero, List.set_cons_succ]
              refine rgn_take (i := 13) (v := ?rv14) rfl (by kernel_rfl) (by kernel_rfl) (by kernel_rfl) (fun _ _ _ h => h) (by rfl) ?rh14 (by assumption) ?rr14
              case rh14 => (intro w hSw; (try dsimp only at hSw); go_simp; try with_reducible rfl)
              simp only [Act.put, List.setIfInBounds_toArray, List.set_cons_zero, List.set_cons_succ]
              refine rgn_call (i := 14) rfl (by kernel_rfl) (fun K hK => ?_)
              go_simp
              go_at_call 60; (with_reducible refine (beq_any kn k0 _ HKn.out HK0.out).mono ?_); rintro x wx ⟨rfl, rfl⟩; rw [HEq.out]
              refine hK.out _ _ hS0 (fun hS0 => ?_)
              clear hK K
              refine rgn_take (i := 15) (v := ?rv16) rfl (by kernel_rfl) (by kernel_rfl) (by kernel_rfl) (fun _ _ _ h => h) (by rfl) ?rh16 (by assumption) ?rr16
              case rh16 => (intro w hSw; (try dsimp only at hSw); go_simp; try with_reducible rfl)
              simp only [Act.put, List.setIfInBounds_toArray, List.set_cons_zero, List.set_cons_succ]
              refine wpAnyH_done (by kernel_rfl) ?_ _
              go_wp2_with fail
              go_roundw
              · refine ⟨n + 1, by omega, by omega, by go_num, ?_⟩
                obtain ⟨q, e⟩ := HQ.out
                exact ⟨q + 1, by rw [e]; rfl⟩
              · simp [intOf]; omega
            · have HEq : Hid (decide (kn.2.2 = k0.2.2) = false) := by
                have hne : n = grpN R := by rw [← HG.out]; omega
                have h9 := grp_out (R := R) (by rw [← hne]; exact hnl)
                simp only [← hne] at h9
                rw [hkn, hk0] at h9
                exact decide_eq_false h9
              have hne : Hid (n = g) := by unfold Hid; omega
              clear y0 y1 hkn hk0
              go_upto_region 6 with fail
              refine wp_region_held_drew (S := fun w' => w'.cell? ⟨lb, lo + n * 4, none⟩ = some (.slice kn.1 kn.2.2.length kn.2.1) ∧ w'.cell? ⟨lb, lo, none⟩ = some (.slice k0.1 k0.2.2.length k0.2.1)) (by kernel_rfl) HS0.out ?_
              intro hS0
              refine rgn_take (i := 0) (v := ?rv17) rfl (by kernel_rfl) (by kernel_rfl) (by kernel_rfl) (fun _ _ _ h => h) (by rfl) ?rh17 (by assumption) ?rr17
              case rh17 => (intro w hSw; (try dsimp only at hSw); go_simp; try with_reducible rfl)
              simp only [Act.put, List.setIfInBounds_toArray, List.set_cons_zero, List.set_cons_succ]
              refine rgn_take (i := 1) (v := ?rv18) rfl (by kernel_rfl) (by kernel_rfl) (by kernel_rfl) (fun _ _ _ h => h) (by rfl) ?rh18 (by assumption) ?rr18
              case rh18 => (intro w hSw; (try dsimp only at hSw); go_simp; try with_reducible rfl)
              simp only [Act.put, List.setIfInBounds_toArray, List.set_cons_zero, List.set_cons_succ]
              refine rgn_take (i := 2) (v := ?rv19) rfl (by kernel_rfl) (by kernel_rfl) (by kernel_rfl) (fun _ _ _ h => h) (by rfl) ?rh19 (by assumption) ?rr19
              case rh19 => (intro w hSw; (try dsimp only at hSw); go_simp; try with_reducible rfl)
              simp only [Act.put, List.setIfInBounds_toArray, List.set_cons_zero, List.set_cons_succ]
              refine rgn_take (i := 3) (v := ?rv20) rfl (by kernel_rfl) (by kernel_rfl) (by kernel_rfl) (fun _ _ _ h => h) (by rfl) ?rh20 (by assumption) ?rr20
              case rh20 => (intro w hSw; (try dsimp only at hSw); go_simp; try with_reducible rfl)
              simp only [Act.put, List.setIfInBounds_toArray, List.set_cons_zero, List.set_cons_succ]
              refine rgn_take (i := 4) (v := ?rv21) rfl (by kernel_rfl) (by kernel_rfl) (by kernel_rfl) (fun _ _ _ h => h) (by rfl) ?rh21 (by assumption) ?rr21
              case rh21 => (intro w hSw; (try dsimp only at hSw); go_simp; try with_reducible rfl)
              simp only [Act.put, List.setIfInBounds_toArray, List.set_cons_zero, List.set_cons_succ]
              refine rgn_take (i := 5) (v := ?rv22) rfl (by kernel_rfl) (by kernel_rfl) (by kernel_rfl) (fun _ _ _ h => h) (by rfl) ?rh22 (by assumption) ?rr22
              case rh22 => (intro w hSw; (try dsimp only at hSw); go_simp; try with_reducible rfl)
              simp only [Act.put, List.setIfInBounds_toArray, List.set_cons_zero, List.set_cons_succ]
              refine rgn_take (i := 6) (v := ?rv23) rfl (by kernel_rfl) (by kernel_rfl) (by kernel_rfl) (fun _ _ _ h => h) (by rfl) ?rh23 (by assumption) ?rr23
              case rh23 => (intro w hSw; (try dsimp only at hSw); go_simp; try with_reducible rfl)
              simp only [Act.put, List.setIfInBounds_toArray, List.set_cons_zero, List.set_cons_succ]
              refine rgn_take (i := 7) (v := ?rv24) rfl (by kernel_rfl) (by kernel_rfl) (by kernel_rfl) (fun _ _ _ h => h) (by rfl) ?rh24 (by assumption) ?rr24
              case rh24 => (intro w hSw; (try dsimp only at hSw); go_simp; try with_reducible rfl)
              simp only [Act.put, List.setIfInBounds_toArray, List.set_cons_zero, List.set_cons_succ]
              refine rgn_take (i := 8) (v := ?rv25) rfl (by kernel_rfl) (by kernel_rfl) (by kernel_rfl) (fun _ _ _ h => h) (by rfl) ?rh25 (by assumption) ?rr25
              case rh25 => (intro w hSw; (try dsimp only at hSw); go_simp; try with_reducible rfl)
              simp only [Act.put, List.setIfInBounds_toArray, List.set_cons_zero, List.set_cons_succ]
              refine rgn_take (i := 9) (v := ?rv26) rfl (by kernel_rfl) (by kernel_rfl) (by kernel_rfl) (fun _ _ _ h => h) (by rfl) ?rh26 (by assumption) ?rr26
              case rh26 => (intro w hSw; (try dsimp only at hSw); go_simp; try with_reducible rfl)
              simp only [Act.put, List.setIfInBounds_toArray, List.set_cons_zero, List.set_cons_succ]
              refine rgn_take (i := 10) (v := ?rv27) rfl (by kernel_rfl) (by kernel_rfl) (by kernel_rfl) (fun _ _ _ h => h) (by rfl) ?rh27 (by assumption) ?rr27
              case rh27 => (intro w hSw; (try dsimp only at hSw); go_simp; try with_reducible rfl)
              simp only [Act.put, List.setIfInBounds_toArray, List.set_cons_zero, List.set_cons_succ]
              refine rgn_take (i := 11) (v := ?rv28) rfl (by kernel_rfl) (by kernel_rfl) (by kernel_rfl) (fun _ _ _ h => h) (by rfl) ?rh28 (by assumption) ?rr28
              case rh28 => (intro w hSw; (try dsimp only at hSw); go_simp; try with_reducible rfl)
              simp only [Act.put, List.setIfInBounds_toArray, List.set_cons_zero, List.set_cons_succ]
              refine rgn_take (i := 12) (v := ?rv29) rfl (by kernel_rfl) (by kernel_rfl) (by kernel_rfl) (fun _ _ _ h => h) (by rfl) ?rh29 (by assumption) ?rr29
              case rh29 => (intro w hSw; (try dsimp only at hSw); go_simp; try with_reducible rfl)
              simp only [Act.put, List.setIfInBounds_toArray, List.set_cons_zero, List.set_cons_succ]
              refine rgn_take (i := 13) (v := ?rv30) rfl (by kernel_rfl) (by kernel_rfl) (by kernel_rfl) (fun _ _ _ h => h) (by rfl) ?rh30 (by assumption) ?rr30
              case rh30 => (intro w hSw; (try dsimp only at hSw); go_simp; try with_reducible rfl)
              simp only [Act.put, List.setIfInBounds_toArray, List.set_cons_zero, List.set_cons_succ]
              refine rgn_call (i := 14) rfl (by kernel_rfl) (fun K hK => ?_)
              go_simp
              go_at_call 60; (with_reducible refine (beq_any kn k0 _ HKn.out HK0.out).mono ?_); rintro x wx ⟨rfl, rfl⟩; rw [HEq.out]
              refine hK.out _ _ hS0 (fun hS0 => ?_)
              clear hK K
              refine rgn_take (i := 15) (v := ?rv32) rfl (by kernel_rfl) (by kernel_rfl) (by kernel_rfl) (fun _ _ _ h => h) (by rfl) ?rh32 (by assumption) ?rr32
              case rh32 => (intro w hSw; (try dsimp only at hSw); go_simp; try with_reducible rfl)
              simp only [Act.put, List.setIfInBounds_toArray, List.set_cons_zero, List.set_cons_succ]
              refine wpAnyH_done (by kernel_rfl) ?_ _
              go_wp2_with fail
              go_meet
              obtain ⟨q, e⟩ := HQ.out
              exact ⟨by rw [hne.out], q + 1, by rw [e]; rfl⟩
          · have hnmi : ¬ (n : Int) < m := by omega
            have hnd : decide ((n : Int) < (m : Int)) = false := decide_eq_false hnmi
            have hne : Hid (n = g) := by unfold Hid; omega
            go_upto_region 6 with fail
            refine wp_region_held_drew (S := fun _ => True) (by kernel_rfl) trivial ?_
            intro hS0
            refine rgn_take (i := 0) (v := ?rv33) rfl (by kernel_rfl) (by kernel_rfl) (by kernel_rfl) (fun _ _ _ h => h) (by rfl) ?rh33 (by assumption) ?rr33
            case rh33 => (intro w hSw; (try dsimp only at hSw); go_simp; try with_reducible rfl)
            simp only [Act.put, List.setIfInBounds_toArray, List.set_cons_zero, List.set_cons_succ]
            refine rgn_take (i := 1) (v := ?rv34) rfl (by kernel_rfl) (by kernel_rfl) (by kernel_rfl) (fun _ _ _ h => h) (by rfl) ?rh34 (by assumption) ?rr34
            case rh34 => (intro w hSw; (try dsimp only at hSw); go_simp; try with_reducible rfl)
            simp only [Act.put, List.setIfInBounds_toArray, List.set_cons_zero, List.set_cons_succ]
            refine rgn_take (i := 2) (v := ?rv35) rfl (by kernel_rfl) (by kernel_rfl) (by kernel_rfl) (fun _ _ _ h => h) (by rfl) ?rh35 (by assumption) ?rr35
            case rh35 => (intro w hSw; (try dsimp only at hSw); go_simp; try with_reducible rfl)
            simp only [Act.put, List.setIfInBounds_toArray, List.set_cons_zero, List.set_cons_succ]
            refine rgn_take (i := 3) (v := ?rv36) rfl (by kernel_rfl) (by kernel_rfl) (by kernel_rfl) (fun _ _ _ h => h) (by rfl) ?rh36 (by assumption) ?rr36
            case rh36 => (intro w hSw; (try dsimp only at hSw); go_simp; try with_reducible rfl)
            simp only [Act.put, List.setIfInBounds_toArray, List.set_cons_zero, List.set_cons_succ]
            try simp only [hnd]
            refine rgn_take (i := 4) (v := ?rv38) rfl (by kernel_rfl) (by kernel_rfl) (by kernel_rfl) (fun _ _ _ h => h) (by rfl) ?rh38 (by assumption) ?rr38
            case rh38 => (intro w hSw; (try dsimp only at hSw); go_simp; try with_reducible rfl)
            simp only [Act.put, List.setIfInBounds_toArray, List.set_cons_zero, List.set_cons_succ]
            refine rgn_skip (i := 5) rfl (by kernel_rfl) (by kernel_rfl) (by kernel_rfl) (fun _ _ _ h => h) (by rfl) (by assumption) ?_
            simp only [Act.put, List.setIfInBounds_toArray, List.set_cons_zero, List.set_cons_succ]
            refine rgn_skip (i := 6) rfl (by kernel_rfl) (by kernel_rfl) (by kernel_rfl) (fun _ _ _ h => h) (by rfl) (by assumption) ?_
            simp only [Act.put, List.setIfInBounds_toArray, List.set_cons_zero, List.set_cons_succ]
            refine rgn_skip (i := 7) rfl (by kernel_rfl) (by kernel_rfl) (by kernel_rfl) (fun _ _ _ h => h) (by rfl) (by assumption) ?_
            simp only [Act.put, List.setIfInBounds_toArray, List.set_cons_zero, List.set_cons_succ]
            refine rgn_skip (i := 8) rfl (by kernel_rfl) (by kernel_rfl) (by kernel_rfl) (fun _ _ _ h => h) (by rfl) (by assumption) ?_
            simp only [Act.put, List.setIfInBounds_toArray, List.set_cons_zero, List.set_cons_succ]
            refine rgn_skip (i := 9) rfl (by kernel_rfl) (by kernel_rfl) (by kernel_rfl) (fun _ _ _ h => h) (by rfl) (by assumption) ?_
            simp only [Act.put, List.setIfInBounds_toArray, List.set_cons_zero, List.set_cons_succ]
            refine rgn_skip (i := 10) rfl (by kernel_rfl) (by kernel_rfl) (by kernel_rfl) (fun _ _ _ h => h) (by rfl) (by assumption) ?_
            simp only [Act.put, List.setIfInBounds_toArray, List.set_cons_zero, List.set_cons_succ]
            refine rgn_skip (i := 11) rfl (by kernel_rfl) (by kernel_rfl) (by kernel_rfl) (fun _ _ _ h => h) (by rfl) (by assumption) ?_
            simp only [Act.put, List.setIfInBounds_toArray, List.set_cons_zero, List.set_cons_succ]
            refine rgn_skip (i := 12) rfl (by kernel_rfl) (by kernel_rfl) (by kernel_rfl) (fun _ _ _ h => h) (by rfl) (by assumption) ?_
            simp only [Act.put, List.setIfInBounds_toArray, List.set_cons_zero, List.set_cons_succ]
            refine rgn_skip (i := 13) rfl (by kernel_rfl) (by kernel_rfl) (by kernel_rfl) (fun _ _ _ h => h) (by rfl) (by assumption) ?_
            simp only [Act.put, List.setIfInBounds_toArray, List.set_cons_zero, List.set_cons_succ]
            refine rgn_skip (i := 14) rfl (by kernel_rfl) (by kernel_rfl) (by kernel_rfl) (fun _ _ _ h => h) (by rfl) (by assumption) ?_
            simp only [Act.put, List.setIfInBounds_toArray, List.set_cons_zero, List.set_cons_succ]
            refine rgn_take (i := 15) (v := ?rv49) rfl (by kernel_rfl) (by kernel_rfl) (by kernel_rfl) (fun _ _ _ h => h) (by rfl) ?rh49 (by assumption) ?rr49
            case rh49 => (intro w hSw; (try dsimp only at hSw); go_simp; try with_reducible rfl)
            simp only [Act.put, List.setIfInBounds_toArray, List.set_cons_zero, List.set_cons_succ]
            refine wpAnyH_done (by kernel_rfl) ?_ _
            go_wp2_with fail
            go_meet
            obtain ⟨q, e⟩ := HQ.out
            exact ⟨by rw [hne.out], q + 1, by rw [e]; rfl⟩
      case rest =>
        obtain ⟨rfl, HQ⟩ := hcut
        have HT2 : Hid (Sat w (Row 34 4 (.slice TA ts.length tc) ts.length (ts.flatMap enV) * (OwnE ts * Emp)) wc) := by
          obtain ⟨q, e⟩ := HQ.out
          rw [e, HWo.out]
          exact HTs.out.drewN q
        clear HQ HTs
        obtain ⟨G, hG⟩ : ∃ G, G = R.take g := ⟨_, rfl⟩
        have hGl : G.length = g := by rw [hG, List.length_take, HRl.out]; omega
        have HGl := Lib.hid hGl
        have HGe := Lib.hid hG
        have HGd : Hid (descS G) := by rw [hG]; exact desc_of HRs.out (fun i h hi => grp_in h (by rw [← HG.out]; exact hi))
        have HQ4 : Hid (∀ W, Chg No w W → ∀ i (hi : i < R.length), W.cell? ⟨lb, lo + i * 4, none⟩ = some (slv' R[i].key) ∧ W.cell? ⟨lb, lo + i * 4 + 1, none⟩ = some (slv' R[i].value) ∧ W.cell? ⟨lb, lo + i * 4 + 2, none⟩ = some (.int .i64 R[i].seq) ∧ W.cell? ⟨lb, lo + i * 4 + 3, none⟩ = some (.bool R[i].dead)) := fun W hW => by
          obtain ⟨b', o', e, hc⟩ := ents_at (HRd.out.new hW) (by rw [HRl.out]; exact hm0)
          injection e with e
          injection e with e1 e2
          subst e1; subst e2
          exact hc
        obtain ⟨mk, hmk⟩ : ∃ mk, mk = mrkTo G snaps := ⟨_, rfl⟩
        have HMl : Hid (mk.length = g) := by rw [hmk]; exact (mrkTo_len G snaps).trans hGl
        have HMk : Hid (selE mk (G.map En.ent) = keptX snaps none (G.map En.ent)) := by rw [hmk]; exact mrk_kept HGd.out snaps
        have HSe : Hid (Calls Try.prog 71 #[.slice (some ⟨lb, lo, none⟩) g c', .slice SA snaps.length sc] wc fun x w' => ∃ gm, x = .returned (.slice (some ⟨gm, 0, none⟩) g g) ∧ Sat w (Row 34 4 (.slice TA ts.length tc) ts.length (ts.flatMap enV) * (OwnE ts * (Row 4 1 (.slice (some ⟨gm, 0, none⟩) g g) g (mk.map Value.bool) * Emp))) w') := by
          have h9 := seen_any (some ⟨lb, lo, none⟩) c' G SA sc snaps HT2.out (by rw [hG]; exact ents_take (HRd.out.new HT2.out.chg) (by rw [HRl.out]; omega)) (HSn.out.new HT2.out.chg) (by omega) hsn (fun s a b ha hb hab hx => by
            rcases Nat.lt_or_ge a b with h | h
            · have := HGd.out a b ha hb h; omega
            · obtain rfl : a = b := by omega
              exact hx)
          rw [hGl, ← hmk] at h9
          exact h9.mono fun x w' ⟨gm, h1, h2, _⟩ => ⟨gm, h1, h2.of (by ac_rfl)⟩
        have hgc : (g : Int) ≤ c' := by omega
        have hgc2 : g ≤ c' := by omega
        clear hG hGl hmk hq
        go_wp2_with (go_at_call 71; (with_reducible refine HSe.out.mono ?_); rintro x w3 ⟨gm, rfl, hs⟩; have HS3 := Lib.hid hs; clear hs)
        clear HSe HT2
        go_loopw [8, 45] (fun ov iv wr => ∃ (i : Nat) (ts2 : List En) (TA2 : Option Addr) (tc2 : Nat), i ≤ g ∧ iv = .int .i64 (i : Int) ∧ ov = .slice TA2 ts2.length tc2 ∧ ts2.length ≤ ts.length + i ∧ Hid (ts2.map En.ent = ts.map En.ent ++ selE (mk.take i) ((G.take i).map En.ent) ∧ Sat w (Row 34 4 (.slice TA2 ts2.length tc2) ts2.length (ts2.flatMap enV) * (OwnE ts2 * (Row 4 1 (.slice (some ⟨gm, 0, none⟩) g g) g (mk.map Value.bool) * Emp))) wr)) (fun _ iv _ => g - (intOf iv).toNat)
        case atStart => exact ⟨0, ts, TA, tc, by omega, rfl, rfl, by omega, by simp [selE], HS3.out⟩
        case round =>
          obtain ⟨i, ts2, TA2, tc2, hi, rfl, rfl, hl2, HE⟩ := hrel
          by_cases hig : i < g
          · have hii : (i : Int) < g := by omega
            have hiR : i < R.length := by rw [HRl.out]; omega
            have z0 := HE.out.2.up3.row_cell (j := i) (by rw [List.length_map, HMl.out]; exact hig)
            rw [List.getElem_map] at z0
            obtain ⟨mb, hmb⟩ : ∃ mb, mk[i]'(by rw [HMl.out]; exact hig) = mb := ⟨_, rfl⟩
            rw [hmb] at z0
            have HSn2 : Hid (selE (mk.take (i + 1)) ((G.take (i + 1)).map En.ent) = selE (mk.take i) ((G.take i).map En.ent) ++ (if mb = true then [R[i].ent] else [])) := by
              have hiG : i < G.length := by rw [HGl.out]; exact hig
              have hiM : i < mk.length := by rw [HMl.out]; exact hig
              have e1 : mk.take (i + 1) = mk.take i ++ [mb] := by rw [List.take_add_one, List.getElem?_eq_getElem hiM, hmb]; rfl
              have e2 : G[i]? = some R[i] := by rw [HGe.out, List.getElem?_take, if_pos hig, List.getElem?_eq_getElem hiR]
              have e3 : G.take (i + 1) = G.take i ++ [R[i]] := by rw [List.take_add_one, e2]; rfl
              unfold Hid
              rw [e1, e3, List.map_append]
              exact sel_snoc _ _ _ _ (by rw [List.length_take, List.length_map, List.length_take, HMl.out, HGl.out])
            clear hmb
            cases mb
            · go_wp2_with fail
              go_roundw
              · refine ⟨i + 1, ts2, TA2, tc2, by omega, by go_num, rfl, by omega, ?_, HE.out.2⟩
                rw [HSn2.out, HE.out.1]
                simp
              · simp [intOf]; omega
            · obtain ⟨y0, y1, y2, y3⟩ := HQ4.out wr HE.out.2.chg i hiR
              have HRi := Lib.hid ((HRr.out _ (List.getElem_mem hiR)))
              have HRj := Lib.hid ((HRz.out _ (List.getElem_mem hiR)))
              obtain ⟨x, hx⟩ : ∃ x, R[i] = x := ⟨_, rfl⟩
              rw [hx] at y0 y1 y2 y3 HRi HRj HSn2
              clear hx
              unfold slv' at y0 y1
              have HCo : Hid (Calls Try.prog 70 #[.agg #[.slice x.key.1 x.key.2.2.length x.key.2.1, .slice x.value.1 x.value.2.2.length x.value.2.1, .int .i64 x.seq, .bool x.dead]] wr fun y w' => CopiedS w _ x y w' ∧ Chg No wr w') := gcopied_any x w wr _ HE.out.2 ⟨HRi.out.1.new HE.out.2.chg, HRi.out.2.new HE.out.2.chg⟩ (by have := HRj.out.1; omega) (by have := HRj.out.2; omega)
              go_wp2_with (first
                | (go_at_call 70; (with_reducible refine HCo.out.mono ?_); rintro y w6 ⟨⟨A2, c2, B2, d2, rfl, hs6⟩, k6⟩; have HS6 := Lib.hid hs6; clear hs6 k6; simp only [enA])
                | (at_builtin; refine wpList_appS rfl (.tmp 51) (.tmp 57) 22 rfl 34 i0 _ 4 64 Try.underlying22 Hi0.out Hz0.out Hz1.out Hz2.out rfl (by decide) (.slice TA2 ts2.length tc2) ts2.length (ts2.flatMap enV) rfl w _ (by exact (HS6.out.alloc' _).up3) (some ⟨w6.heap.size, 0, none⟩) 1 1 [.slice A2 x.key.2.2.length c2, .slice B2 x.value.2.2.length d2, .int .i64 x.seq, .bool x.dead] rfl (lit_rdv _ _ _) rfl (by intro u hu; simp at hu; rcases hu with rfl | rfl | rfl | rfl <;> rfl) (by unfold maxLen; omega) (by omega) ?_; intro A3 c3 w7 hs7; have HS7 := Lib.hid hs7; clear hs7))
              go_roundw
              · refine ⟨i + 1, ts2 ++ [⟨(A2, c2, x.key.2.2), (B2, d2, x.value.2.2), x.seq, x.dead⟩], A3, c3, by omega, by go_num, by rw [List.length_append]; rfl, by rw [List.length_append]; simp; omega, ?_, ?_⟩
                · rw [HSn2.out, List.map_append, HE.out.1, List.append_assoc]
                  rfl
                · refine HS7.out.of ?_
                  rw [ownE_snoc, List.flatMap_append, List.length_append]
                  show _ = Row _ 4 _ _ (ts2.flatMap enV ++ [_, _, _, _]) * _
                  unfold slv'
                  ac_rfl
              · simp [intOf]; omega
          · have hig2 : i = g := by omega
            subst hig2
            have hii : ¬ (i : Int) < i := by omega
            have HE1 : Hid (ts2.map En.ent = ts.map En.ent ++ keptX snaps none (G.map En.ent)) := by
              have h9 := HE.out.1
              rw [List.take_of_length_le (by rw [HMl.out]; exact Nat.le_refl _), List.take_of_length_le (by rw [HGl.out]; exact Nat.le_refl _), HMk.out] at h9
              exact h9
            have HE2 : Hid (Sat w (Row 34 4 (.slice TA2 ts2.length tc2) ts2.length (ts2.flatMap enV) * (OwnE ts2 * Emp)) wr) := Sat.right (A := Row 4 1 (.slice (some ⟨gm, 0, none⟩) i i) i (mk.map Value.bool)) (HE.out.2.of (by ac_rfl))
            clear HE HS3
            go_upto_block 6 with fail
            go_cut [8] (fun ov wx => ∃ (ts4 : List En) (TA4 : Option Addr) (tc4 : Nat), ov = .slice TA4 ts4.length tc4 ∧ Hid (ts4.map En.ent = ts.map En.ent ++ keptB b snaps (G.map En.ent) ∧ Sat w (Row 34 4 (.slice TA4 ts4.length tc4) ts4.length (ts4.flatMap enV) * (OwnE ts4 * Emp)) wx))
            case first =>
              go_wp2_with fail
              go_loopw [8] (fun ov wr => ∃ (ts3 : List En) (X : List Ent) (TA3 : Option Addr) (tc3 : Nat), ov = .slice TA3 ts3.length tc3 ∧ ts.length ≤ ts3.length ∧ ts3.length ≤ 1000000 ∧ Hid (ts3.map En.ent = ts.map En.ent ++ X ∧ (b = true → trimD X = trimD (keptX snaps none (G.map En.ent))) ∧ (b = false → X = keptX snaps none (G.map En.ent)) ∧ Sat w (Row 34 4 (.slice TA3 ts3.length tc3) ts3.length (ts3.flatMap enV) * (OwnE ts3 * Emp)) wr)) (fun ov _ => lenOf ov)
              case atStart =>
                refine ⟨ts2, keptX snaps none (G.map En.ent), TA2, tc2, rfl, ?_, by have := HMe.out; omega, HE1.out, fun _ => rfl, fun _ => rfl, HE2.out⟩
                have h9 := congrArg List.length HE1.out
                rw [List.length_append, List.length_map, List.length_map] at h9
                omega
              case round =>
                obtain ⟨ts3, X, TA3, tc3, rfl, hl3, hl4, HF⟩ := hrel
                cases b
                · go_wp2_with fail
                  go_meet
                  refine ⟨ts3, TA3, tc3, rfl, ?_, HF.out.2.2.2⟩
                  rw [show keptB false snaps (G.map En.ent) = keptX snaps none (G.map En.ent) from rfl, HF.out.1, HF.out.2.2.1 (by simp)]
                · by_cases hle : ts.length < ts3.length
                  · obtain ⟨ts5, x, rfl⟩ : ∃ ts5 x, ts3 = ts5 ++ [x] := by
                      rcases List.eq_nil_or_concat ts3 with h9 | ⟨a, z, h9⟩
                      · rw [h9] at hle; simp at hle
                      · exact ⟨a, z, by rw [h9, List.concat_eq_append]⟩
                    obtain ⟨X2, hX⟩ : ∃ X2, X = X2 ++ [x.ent] := by
                      have h9 := HF.out.1
                      rcases List.eq_nil_or_concat X with h8 | ⟨a, z, h8⟩
                      · rw [h8] at h9
                        have := congrArg List.length h9
                        rw [List.length_map, List.append_nil, List.length_map] at this
                        omega
                      · rw [List.concat_eq_append] at h8
                        rw [h8, List.map_append, ← List.append_assoc] at h9
                        have h7 := List.append_inj_right' h9 rfl
                        injection h7 with h7
                        have h6 : x.ent = z := h7
                        exact ⟨a, by rw [h8, h6]⟩
                    subst hX
                    obtain ⟨q, hq⟩ : ∃ q, q = ts5.length := ⟨_, rfl⟩
                    have hql : (ts5 ++ [x]).length = q + 1 := by rw [List.length_append, hq]; rfl
                    rw [hql] at hle hl3 hl4 ⊢
                    have HFs : Hid (Sat w (Row 34 4 (.slice TA3 (q + 1) tc3) (q + 1) ((ts5 ++ [x]).flatMap enV) * (OwnE (ts5 ++ [x]) * Emp)) wr) := by rw [← hql]; exact HF.out.2.2.2
                    have HFe : Hid (ts5.map En.ent = ts.map En.ent ++ X2) := by
                      have h9 := HF.out.1
                      rw [List.map_append, ← List.append_assoc] at h9
                      exact List.append_inj_left' h9 rfl
                    have HFt : Hid (trimD (X2 ++ [x.ent]) = trimD (keptX snaps none (G.map En.ent))) := HF.out.2.1 (by simp)
                    obtain ⟨g3, rfl, hg3⟩ := HFs.out.row_at (by omega)
                    have z3 := hg3 (q * 4 + 3) (by rw [flatK_len enV_len, hql]; omega)
                    have z4 : ((ts5 ++ [x]).flatMap enV)[q * 4 + 3]'(by rw [flatK_len enV_len, hql]; omega) = .bool x.dead := by
                      have e1 : (ts5 ++ [x]).flatMap enV = ts5.flatMap enV ++ enV x := by rw [List.flatMap_append, List.flatMap_cons, List.flatMap_nil, List.append_nil]
                      have e2 : (ts5.flatMap enV).length = q * 4 := by rw [flatK_len enV_len, hq]
                      apply Option.some.inj
                      rw [← List.getElem?_eq_getElem, e1, List.getElem?_append_right (by omega), e2, show q * 4 + 3 - q * 4 = 3 by omega]
                      rfl
                    rw [z4] at z3
                    have hqi : ((q : Int) + 1) - 1 = q := by omega
                    have hlq : (ts.length : Int) < (q : Int) + 1 := by omega
                    have HQe : Hid (q = ts5.length) := hq
                    obtain ⟨db, hdb⟩ : ∃ db, x.dead = db := ⟨_, rfl⟩
                    rw [hdb] at z3
                    have HDb : Hid (x.dead = db) := hdb
                    have hc89 : q + 1 ≤ tc3 ∧ tc3 ≤ maxLen := by
                      obtain ⟨A9, c9, e9, h8, h9⟩ := HFs.out.row_sl
                      injection e9 with _ _ e9
                      rw [e9]
                      exact ⟨h8, h9⟩
                    obtain ⟨hc8, hc9⟩ := hc89
                    unfold maxLen at hc9
                    clear hg3 z4 hq hql hdb HF
                    cases db
                    · go_wp2_with fail
                      go_meet
                      refine ⟨ts5 ++ [x], _, tc3, by rw [List.length_append, ← HQe.out]; rfl, ?_, ?_⟩
                      · rw [show keptB true snaps (G.map En.ent) = trimD (keptX snaps none (G.map En.ent)) from rfl, ← HFt.out, trim_stop (by exact HDb.out), List.map_append, HFe.out, List.append_assoc]
                        rfl
                      · rw [List.length_append, ← HQe.out]
                        exact HFs.out
                    · go_wp2_with fail
                      go_roundw
                      · refine ⟨ts5, X2, _, tc3, by rw [← HQe.out], by rw [← HQe.out]; omega, by rw [← HQe.out]; omega, HFe.out, fun _ => ?_, fun h => (by cases h), ?_⟩
                        · rw [← HFt.out, trim_last (by exact HDb.out)]
                        · have h9 := HFs.out.row_cut q (by omega)
                          have e1 : (ts5 ++ [x]).flatMap enV = ts5.flatMap enV ++ enV x := by rw [List.flatMap_append, List.flatMap_cons, List.flatMap_nil, List.append_nil]
                          rw [e1, List.take_left' (by rw [flatK_len enV_len, ← HQe.out]), ownE_snoc] at h9
                          rw [← HQe.out]
                          exact Sat.right (A := Row 5 1 (slv' x.key) x.key.2.2.length (x.key.2.2.map bv) * Row 5 1 (slv' x.value) x.value.2.2.length (x.value.2.2.map bv)) (h9.of (by ac_rfl))
                      · show q < q + 1
                        omega
                  · have hle2 : ts3.length = ts.length := by omega
                    have hX : X = [] := by
                      have h9 := congrArg List.length HF.out.1
                      rw [List.length_append, List.length_map, List.length_map] at h9
                      exact List.length_eq_zero_iff.1 (by omega)
                    have HX := Lib.hid hX
                    have hlq : ¬ (ts.length : Int) < (ts3.length : Int) := by omega
                    clear hle2 hX
                    go_wp2_with fail
                    go_meet
                    refine ⟨ts3, TA3, tc3, rfl, ?_, HF.out.2.2.2⟩
                    rw [show keptB true snaps (G.map En.ent) = trimD (keptX snaps none (G.map En.ent)) from rfl, HF.out.1, ← HF.out.2.1 (by simp), HX.out]
                    rfl
            case rest =>
              obtain ⟨ts4, TA4, tc4, rfl, HF⟩ := hcut
              go_wp2_with fail
              have hkg : es.length - (k + i) = m - i := by have := HMe.out; omega
              have HRn : Hid (R.drop i = es.drop (k + i)) := by
                unfold Hid
                rw [HRk.out, List.drop_drop]
              have hdl : (R.drop i).length = m - i := by rw [List.length_drop, HRl.out]
              go_roundw
              · refine ⟨k + i, _, c' - i, ts4, TA4, tc4, by have := HMe.out; omega, by rw [hkg], rfl, ?_⟩
                refine ⟨?_, ?_, ?_, ?_, HF.out.2⟩
                · rw [← HRn.out]
                  have h9 := ents_drop HRd.out (n := i) (by rw [HRl.out]; omega) (by rw [HRl.out]; omega)
                  by_cases e : c' = i
                  · rw [if_pos e] at h9 ⊢; exact h9
                  · rw [if_neg e, Option.map_some, Addr.add_lit] at h9
                    rw [if_neg e]
                    exact h9
                · rw [← HRn.out, hdl]
                  exact ⟨by omega, by unfold maxLen; omega⟩
                · rw [← HRn.out, HF.out.1, List.append_assoc, ← HRe.out, grp_thin b snaps (R := R) (by intro e; have := HRl.out; rw [e] at this; simp at this; omega), ← HG.out, ← HGe.out]
                · have h9 := congrArg List.length HF.out.1
                  have h8 := (keptB_sub b snaps (G.map En.ent)).length_le
                  rw [List.length_append, List.length_map, List.length_map] at h9
                  rw [List.length_map, HGl.out] at h8
                  omega
              · show m - i < m
                omega
    · have hke : es.length - k = 0 := by omega
      have HEe : Hid (ts.map En.ent = thinE b snaps (es.map En.ent)) := by
        have h9 := HD.out.eq
        rw [List.drop_of_length_le (by omega), List.map_nil, thin_nil, List.append_nil] at h9
        exact h9
      rw [hke]
      go_wp2_with fail
      go_ret2
      exact ⟨ts, TA, tc, rfl, HEe.out, HD.out.sat⟩
end Go.Proofs.Ytaoenbjfkahdjaa
