/- TableBack. (Written by gen_tabback.py.) -/
import Derived.Test.YtaoenbjfkahdjaaQTabPieces
namespace Go.Proofs.Ytaoenbjfkahdjaa
open Go.RowKit
set_option linter.unusedVariables false
set_option maxRecDepth 100000

theorem ownE_capE {w0 w : World} {F : SP} : ∀ {es : List En}, Sat w0 (OwnE es * F) w → ∀ e ∈ es, CapE e
  | [], _ => by simp
  | e :: es, h => by
    have h1 : Sat w0 (Row 5 1 (slv' e.key) e.key.2.2.length (e.key.2.2.map bv) * (Row 5 1 (slv' e.value) e.value.2.2.length (e.value.2.2.map bv) * (OwnE es * F))) w := h.of (by
      show Row _ _ _ _ _ * (Row _ _ _ _ _ * OwnE es) * F = _
      ac_rfl)
    intro x hx
    rcases List.mem_cons.1 hx with rfl | hx
    · exact cap_rows h1 x.seq x.dead
    · exact ownE_capE h1.right.right x hx
theorem rngL_all (L : List Ent) : rngL [] [] L = L := by
  unfold rngL
  refine List.filter_eq_self.2 fun x _ => ?_
  unfold inR
  rw [cb_less]
  have : ¬ Lib.compareBytes x.key [] < 0 := by cases x.key <;> simp [Lib.compareBytes]
  rw [decide_eq_false this]
  rfl
theorem getL_self {L : List Ent} (hs : L.Pairwise LTE) {i : Nat} (hi : i < L.length) : getL L[i].key L[i].seq L = some L[i] := by
  have hq : ∀ x : Ent, lessE x (seekE L[i].key L[i].seq) = lessE x L[i] := fun x => by unfold lessE; rfl
  have hk : i = atN (seekE L[i].key L[i].seq) L := at_here hi (fun j hj hji => by
    rw [hq]
    exact List.pairwise_iff_getElem.1 hs j i hj hi hji) (by
    rw [hq]
    cases h : lessE L[i] L[i] with
    | false => rfl
    | true => exact absurd (show LTE L[i] L[i] from h) (lte_irr _))
  rw [getL_at hk, List.getElem?_eq_getElem hi]
  exact if_pos rfl
theorem unlike_mem (L : List Ent) : ∀ k, k ≤ L.length → ∀ i (hi : i < L.length), i < k → L[i].key ∈ unlike L k
  | 0, _, i, _, h => by omega
  | k + 1, hk, i, hi, h => by
    have hkl : k < L.length := by omega
    have ih := unlike_mem L k (by omega)
    unfold unlike
    rw [List.getElem?_eq_getElem hkl]
    by_cases hik : i = k
    · subst hik
      simp only
      split
      · simp
      · rename_i hk0
        rw [List.getElem?_eq_getElem (show i - 1 < L.length by omega)]
        simp only
        split
        · rename_i he
          rw [← he]
          exact ih (i - 1) (by omega) (by omega)
        · simp
    · have h1 := ih i hi (by omega)
      simp only
      split
      · exact List.mem_append_left _ h1
      · split
        · split
          · exact h1
          · exact List.mem_append_left _ h1
        · exact List.mem_append_left _ h1
theorem bits_has {L : List Ent} (hn : L.length ≤ 65536) {i : Nat} (hi : i < L.length) : hasKey (bitsB L) L[i].key = true := by
  unfold bitsB
  have h4 := unlike_len L L.length
  have h5 := (nbytes_le (unlike L L.length).length 10 ⟨by omega, by omega, by omega, by omega⟩)
  exact hasKey_addAll _ _ _ (unlike_mem L L.length (Nat.le_refl _) i hi hi) (by rw [List.length_replicate]; omega)
theorem rng_any_all (Tb : Nat) (es : List En) (L : List Ent) (hL : es.map En.ent = L) (hs : ∀ e ∈ L, e.seq < 9223372036854775808) (w0 w : World) (G : SP) (hG : Sat w0 G w) (h : TabR w Tb es) :
    Calls Try.prog 16 #[.pointer (some ⟨Tb, 0, none⟩), .slice none 0 0, .slice none 0 0] w (RngH w0 w G L) := by
  have h1 := rangeH (none, 0, []) (none, 0, []) Tb es L hL hs w0 w G hG (Rd.nil _ _) (Rd.nil _ _) h
  rw [rngL_all] at h1
  exact h1
theorem same7 (A : Option Addr) (c : Nat) (B : Option Addr) (d : Nat) (l : List UInt8) (n : Nat) (hn : n = l.length) (w : World) (ha : Rd w A l) (hb : Rd w B l) :
    Calls Try.prog 27 #[.slice A n c, .slice B n d] w fun x w' => x = .returned (.bool true) ∧ w = w' := by
  subst hn
  have h := same_any A B c d l l w ha hb
  rw [beq_self_eq_true] at h
  exact h
set_option maxRecDepth 100000 in
set_option maxHeartbeats 4000000 in
theorem tableBack_walk (A : Option Addr) (cap : Nat) (l : List En) (w : World) (hl : EnsIn w A cap l) :
    Calls Try.prog 8 #[.slice A l.length cap] w (Asked true w) := by
  have HR := Lib.hid (row7_any A cap l w hl)
  have hi := hl.2.2.2.2
  obtain ⟨L, hL⟩ : ∃ L, L = rowL (l.map En.ent) := ⟨_, rfl⟩
  have HB : Hid (buildE L = 0) := by rw [hL]; exact rowL_ok _ fun e he => by obtain ⟨x, hx, rfl⟩ := List.mem_map.1 he; exact (hi x hx).s
  have HSq : Hid (∀ e ∈ L, e.seq < 9223372036854775808) := by rw [hL]; exact rowL_seq fun e he => by obtain ⟨x, hx, rfl⟩ := List.mem_map.1 he; exact (hi x hx).s
  have hLl : L.length ≤ 60 := by rw [hL]; exact rowL_len _
  have HPw : Hid (L.Pairwise LTE) := by rw [hL]; exact rowL_pw _
  rw [← hL] at HR
  clear hl hi hL
  obtain ⟨b, hb⟩ : ∃ b, buildB L = b := ⟨_, rfl⟩
  have HBb := Lib.hid hb
  obtain ⟨n, hn⟩ : ∃ n, b.length = n := ⟨_, rfl⟩
  have HBn := Lib.hid hn
  clear hb hn
  go_enter Try.func8, Try.ntmps8
  go_upto_region 9 with (first
    | (go_at_call 10; (with_reducible refine HR.out.mono ?_); rintro x w1 ⟨es, A1, c1, rfl, q1, q2, q3, q4, q5, q6, q7⟩; have HO := Lib.hid (bld7 A1 c1 es L q1 HB.out HSq.out w1 q4 q5 q2 q3 q6); have HL1 := Lib.hid q1; have Hc1 := Lib.hid q2; have Hm1 := Lib.hid q3; have HV1 := Lib.hid q4; have HE1 := Lib.hid q5; have HC1 := Lib.hid q7; clear q1 q2 q3 q4 q5 q6 q7)
    | (go_at_call 14; (with_reducible refine HO.out.mono ?_); rintro x w2 ⟨B, d, rfl, q1, q2, q3⟩; rw [HBb.out, HBn.out] at q1 q3; rw [HBb.out, HBn.out]; have HK2 : Hid (Calls Try.prog 15 #[.slice B n d] w2 (Open7 L w2)) := opn7 B n d L HB.out HSq.out w2 (by rw [HBb.out]; exact HBn.out.symm) (by rw [HBb.out]; exact q3.row_rdK) q1 q2; have H1 := Lib.hid q1; have H2 := Lib.hid q2; have H3 : Hid (Rd w2 B b) := Lib.hid q3.row_rdK; have HC2 := Lib.hid (HC1.out.tr q3.chg); have HV2 := Lib.hid (HV1.out.new q3.chg); have HE2 := Lib.hid (HE1.out.new q3.chg); clear q1 q2 q3)
    | (go_at_call 15; (with_reducible refine HK2.out.mono ?_); rintro x w3 ⟨T, es', rfl, q1, q2, q3⟩; have HL3 := Lib.hid q1; have HT := Lib.hid q2; have HC3 := Lib.hid (HC2.out.tr q3); have HV3 := Lib.hid (HV2.out.new q3); have HE3 := Lib.hid (HE2.out.new q3); have HR3 := Lib.hid (H3.out.new q3); have HG3 := Lib.hid (Sat.start w3); clear q1 q2 q3)
    | (go_at_call 28; (with_reducible refine (tnum_any _ _).mono ?_); rintro e wx ⟨rfl, rfl⟩)
    | (go_at_call 16; (with_reducible refine (rng_any_all T es' L HL3.out HSq.out w3 w3 _ HG3.out HT.out).mono ?_); rintro x w4 ⟨f1, F1, fc1, rfl, q1, q2, q3, q4, q5⟩; have HF1 := Lib.hid q1; have HQ2 := Lib.hid q2; have HQ3 := Lib.hid q3; have HS4 := Lib.hid q4; clear q1 q2 q3 q4 q5)
    | (go_at_call 19; refine (alike7 F1 A1 fc1 c1 f1 es _ (HF1.out.trans HL1.out.symm) HS4.out.row_rdK (ownE_r HS4.out.right) (HV3.out.new HS4.out.chg) (HE3.out.new HS4.out.chg) HQ2.out HQ3.out Hc1.out Hm1.out).mono ?_; rintro x w5 ⟨rfl, q1⟩; have HC5 := Lib.hid (HS4.out.chg.tr q1); clear q1)
    | (go_at_call 30; (with_reducible refine (wakes7_any w5).mono ?_); rintro x w6 ⟨rfl, q1⟩; have HC6 := Lib.hid (HC5.out.tr q1); have HT6 := Lib.hid (HT.out.new HC6.out); have HG6 := Lib.hid (Sat.start w6); clear q1)
    | (go_at_call 16; (with_reducible refine (rng_any_all T es' L HL3.out HSq.out w6 w6 _ HG6.out HT6.out).mono ?_); rintro x w7 ⟨f2, F2, fc2, rfl, q1, q2, q3, q4, q5⟩; have HC7 := Lib.hid (HC6.out.tr q5); have HO2 := Lib.hid (bld7 F2 fc2 f2 L q1 HB.out HSq.out w7 q4.row_rdK (ownE_r q4.right) q2 q3 (ownE_capE q4.right)); clear q1 q2 q3 q4 q5)
    | (go_at_call 14; (with_reducible refine HO2.out.mono ?_); rintro x w8 ⟨B8, d8, rfl, q1, q2, q3⟩; rw [HBb.out, HBn.out] at q3; rw [HBb.out, HBn.out]; have HC8 := Lib.hid (HC7.out.tr q3.chg); have H8 : Hid (Rd w8 B8 b) := Lib.hid q3.row_rdK; clear q1 q2 q3)
    | (go_at_call 27; (with_reducible refine (same7 B d B8 d8 b n HBn.out.symm w8 (HR3.out.new HC8.out) H8.out).mono ?_); rintro e wx ⟨rfl, rfl⟩))
  have HT8 := Lib.hid (HT.out.new HC8.out)
  have hLe : es.length = L.length := by rw [← HL1.out]; simp
  have HLe := Lib.hid hLe
  have hle : es.length ≤ 60 := by omega
  have HV8 := Lib.hid (HV3.out.new HC8.out)
  have HE8 := Lib.hid (HE3.out.new HC8.out)
  have HC8' := Lib.hid (HC3.out.tr HC8.out)
  clear hLe
  go_wp2_with fail
  go_loopw [9] (fun iv wr => ∃ i : Nat, i ≤ es.length ∧ iv = .int .i64 i ∧ Hid (Sat w8 Emp wr)) (fun iv _ => es.length - (intOf iv).toNat)
  case atStart => exact ⟨0, by omega, rfl, Sat.start w8⟩
  case round =>
    obtain ⟨i, hil, rfl, HD⟩ := hrel
    by_cases hlt : i < es.length
    · have hiL : i < L.length := by rw [← HLe.out]; exact hlt
      have HLi : Hid (L[i] = es[i].ent) := by
        unfold Hid
        have h1 : L[i]? = some es[i].ent := by rw [← HL1.out, List.getElem?_map, List.getElem?_eq_getElem hlt]; rfl
        rw [List.getElem?_eq_getElem hiL] at h1
        exact Option.some.inj h1
      have HGe : Hid (getL es[i].ent.key es[i].ent.seq L = some es[i].ent) := by unfold Hid; rw [← HLi.out]; exact getL_self HPw.out hiL
      have HHas : Hid (hasKey (bitsB L) es[i].ent.key = true) := by unfold Hid; rw [← HLi.out]; exact bits_has (by omega) hiL
      obtain ⟨lb, lo, rfl, hq⟩ := ents_at HV8.out (by omega)
      obtain ⟨z0, z1, z2, z3⟩ := hq i hlt
      unfold slv' at z0 z1
      have HRi := Lib.hid (HE8.out _ (List.getElem_mem hlt))
      obtain ⟨⟨⟨kA, kc, kl⟩, ⟨vA, vc, vl⟩, sq, dd⟩, he⟩ : ∃ e, e = es[i] := ⟨_, rfl⟩
      rw [← he] at z0 z1 z2 z3 HRi HGe HHas
      have Z := Lib.hid (And.intro z0 (And.intro z1 (And.intro z2 z3)))
      have hkl : kl.length ≤ 128 := by
        have h1 := buildE_key HB.out L[i] (List.getElem_mem hiL)
        rw [HLi.out, ← he] at h1
        exact h1
      clear hq z0 z1 z2 z3 he
      go_upto_region 12 with fail
      obtain ⟨wd, hwd⟩ : ∃ wd, wd = wr.drew := ⟨_, rfl⟩
      have HS : Hid (Sat w8 Emp wd) := by rw [hwd]; exact HD.out.drew
      refine wp_region_held_drew (S := fun w' => w'.cell? ⟨lb, lo + i * 4, none⟩ = some (.slice kA kl.length kc) ∧ w'.cell? ⟨lb, lo + i * 4 + 2, none⟩ = some (.int .i64 sq)) (by kernel_rfl) (by rw [← hwd]; exact ⟨HS.out.chg.cell Z.out.1 id, HS.out.chg.cell Z.out.2.2.1 id⟩) ?_
      intro hS0
      rw [← hwd] at hS0 ⊢
      clear hwd
      refine rgn_take (i := 0) (v := ?rv1) rfl (by kernel_rfl) (by kernel_rfl) (by kernel_rfl) (fun _ _ _ h => h) (by rfl) ?rh1 (by assumption) ?rr1
      case rh1 => (intro w hSw; (try dsimp only at hSw); go_simp; try with_reducible rfl)
      simp only [Act.put, List.setIfInBounds_toArray, List.set_cons_zero, List.set_cons_succ]
      refine rgn_take (i := 1) (v := ?rv2) rfl (by kernel_rfl) (by kernel_rfl) (by kernel_rfl) (fun _ _ _ h => h) (by rfl) ?rh2 (by assumption) ?rr2
      case rh2 => (intro w hSw; (try dsimp only at hSw); go_simp; try with_reducible rfl)
      simp only [Act.put, List.setIfInBounds_toArray, List.set_cons_zero, List.set_cons_succ]
      refine rgn_take (i := 2) (v := ?rv3) rfl (by kernel_rfl) (by kernel_rfl) (by kernel_rfl) (fun _ _ _ h => h) (by rfl) ?rh3 (by assumption) ?rr3
      case rh3 => (intro w hSw; (try dsimp only at hSw); go_simp; try with_reducible rfl)
      simp only [Act.put, List.setIfInBounds_toArray, List.set_cons_zero, List.set_cons_succ]
      refine rgn_take (i := 3) (v := ?rv4) rfl (by kernel_rfl) (by kernel_rfl) (by kernel_rfl) (fun _ _ _ h => h) (by rfl) ?rh4 (by assumption) ?rr4
      case rh4 => (intro w hSw; (try dsimp only at hSw); go_simp; try with_reducible rfl)
      simp only [Act.put, List.setIfInBounds_toArray, List.set_cons_zero, List.set_cons_succ]
      refine rgn_take (i := 4) (v := ?rv5) rfl (by kernel_rfl) (by kernel_rfl) (by kernel_rfl) (fun _ _ _ h => h) (by rfl) ?rh5 (by assumption) ?rr5
      case rh5 => (intro w hSw; (try dsimp only at hSw); go_simp; try with_reducible rfl)
      simp only [Act.put, List.setIfInBounds_toArray, List.set_cons_zero, List.set_cons_succ]
      refine rgn_take (i := 5) (v := ?rv6) rfl (by kernel_rfl) (by kernel_rfl) (by kernel_rfl) (fun _ _ _ h => h) (by rfl) ?rh6 (by assumption) ?rr6
      case rh6 => (intro w hSw; (try dsimp only at hSw); go_simp; try with_reducible rfl)
      simp only [Act.put, List.setIfInBounds_toArray, List.set_cons_zero, List.set_cons_succ]
      refine rgn_take (i := 6) (v := ?rv7) rfl (by kernel_rfl) (by kernel_rfl) (by kernel_rfl) (fun _ _ _ h => h) (by rfl) ?rh7 (by assumption) ?rr7
      case rh7 => (intro w hSw; (try dsimp only at hSw); go_simp; try with_reducible rfl)
      simp only [Act.put, List.setIfInBounds_toArray, List.set_cons_zero, List.set_cons_succ]
      refine rgn_take (i := 7) (v := ?rv8) rfl (by kernel_rfl) (by kernel_rfl) (by kernel_rfl) (fun _ _ _ h => h) (by rfl) ?rh8 (by assumption) ?rr8
      case rh8 => (intro w hSw; (try dsimp only at hSw); go_simp; try with_reducible rfl)
      simp only [Act.put, List.setIfInBounds_toArray, List.set_cons_zero, List.set_cons_succ]
      refine rgn_take (i := 8) (v := ?rv9) rfl (by kernel_rfl) (by kernel_rfl) (by kernel_rfl) (fun _ _ _ h => h) (by rfl) ?rh9 (by assumption) ?rr9
      case rh9 => (intro w hSw; (try dsimp only at hSw); go_simp; try with_reducible rfl)
      simp only [Act.put, List.setIfInBounds_toArray, List.set_cons_zero, List.set_cons_succ]
      refine rgn_take (i := 9) (v := ?rv10) rfl (by kernel_rfl) (by kernel_rfl) (by kernel_rfl) (fun _ _ _ h => h) (by rfl) ?rh10 (by assumption) ?rr10
      case rh10 => (intro w hSw; (try dsimp only at hSw); go_simp; try with_reducible rfl)
      simp only [Act.put, List.setIfInBounds_toArray, List.set_cons_zero, List.set_cons_succ]
      refine rgn_take (i := 10) (v := ?rv11) rfl (by kernel_rfl) (by kernel_rfl) (by kernel_rfl) (fun _ _ _ h => h) (by rfl) ?rh11 (by assumption) ?rr11
      case rh11 => (intro w hSw; (try dsimp only at hSw); go_simp; try with_reducible rfl)
      simp only [Act.put, List.setIfInBounds_toArray, List.set_cons_zero, List.set_cons_succ]
      refine rgn_both (i := 11) (j := 15) rfl rfl (by kernel_rfl) (fun K hK => ?_) (fun K hK => ?_)
      ·
        go_simp
        go_at_call 33
        refine (tget_any (kA, kc, kl) sq T es' _ (HRi.out.1.new HS.out.chg) (HT8.out.new HS.out.chg)).mono ?_
        rintro x w_11 ⟨⟨⟨gA, gc, gk⟩, ⟨hA, hc, hv⟩, gs, gd⟩, rfl, q1, q2⟩
        rw [show es'.map En.ent = L from HL3.out, show getL kl sq L = some ⟨kl, vl, sq, dd⟩ from HGe.out] at q1 ⊢
        replace HS : Hid (Sat w8 (OwnE [⟨(gA, gc, gk), (hA, hc, hv), gs, gd⟩] * Emp) w_11) := HS.out.join q2 (ownedE _)
        have HQ1 := Lib.hid q1
        clear q1 q2
        simp only [enA]
        refine hK.out _ _ ⟨HS.out.chg.cell Z.out.1 id, HS.out.chg.cell Z.out.2.2.1 id⟩ (fun hS0 => ?_)
        clear hK K
        refine rgn_take (i := 12) (v := ?rv12) rfl (by kernel_rfl) (by kernel_rfl) (by kernel_rfl) (fun _ _ _ h => h) (by rfl) ?rh12 (by assumption) ?rr12
        case rh12 => (intro w hSw; (try dsimp only at hSw); go_simp; try with_reducible rfl)
        simp only [Act.put, List.setIfInBounds_toArray, List.set_cons_zero, List.set_cons_succ]
        refine rgn_take (i := 13) (v := ?rv13) rfl (by kernel_rfl) (by kernel_rfl) (by kernel_rfl) (fun _ _ _ h => h) (by rfl) ?rh13 (by assumption) ?rr13
        case rh13 => (intro w hSw; (try dsimp only at hSw); go_simp; try with_reducible rfl)
        simp only [Act.put, List.setIfInBounds_toArray, List.set_cons_zero, List.set_cons_succ]
        refine rgn_take (i := 14) (v := ?rv14) rfl (by kernel_rfl) (by kernel_rfl) (by kernel_rfl) (fun _ _ _ h => h) (by rfl) ?rh14 (by assumption) ?rr14
        case rh14 => (intro w hSw; (try dsimp only at hSw); go_simp; try with_reducible rfl)
        simp only [Act.put, List.setIfInBounds_toArray, List.set_cons_zero, List.set_cons_succ]
        refine rgn_call (i := 15) rfl (by kernel_rfl) (fun K hK => ?_)
        go_simp
        have hs := HS.out.allocPt 34 #[.slice none 0 0, .slice none 0 0, .int .i64 0, .bool false]
        revert hs
        generalize World.alloc w_11 _ = w_15
        generalize w_11.heap.size = E15
        intro hs
        replace HS : Hid (Sat w8 (Pt E15 34 #[.slice none 0 0, .slice none 0 0, .int .i64 0, .bool false] * (OwnE [⟨(gA, gc, gk), (hA, hc, hv), gs, gd⟩] * Emp)) w_15) := hs
        clear hs
        refine hK.out _ _ ⟨HS.out.chg.cell Z.out.1 id, HS.out.chg.cell Z.out.2.2.1 id⟩ (fun hS0 => ?_)
        clear hK K
        refine rgn_call (i := 16) rfl (by kernel_rfl) (fun K hK => ?_)
        have f0 := HS.out.frozen 0; have f1 := HS.out.frozen 1; have f2 := HS.out.frozen 2; have f3 := HS.out.frozen 3
        have d0 := HS.out.cell 0; have d1 := HS.out.cell 1; have d2 := HS.out.cell 2; have d3 := HS.out.cell 3
        go_simp
        have hs := (((HS.out.set 0 (.slice gA gk.length gc)).set 1 (.slice hA hv.length hc)).set 2 (.int .i64 gs)).set 3 (.bool gd)
        clear f0 f1 f2 f3 d0 d1 d2 d3
        revert hs
        generalize World.setCell _ _ _ = w_16
        intro hs
        replace HS : Hid (Sat w8 (Pt E15 34 #[.slice gA gk.length gc, .slice hA hv.length hc, .int .i64 gs, .bool gd] * (OwnE [⟨(gA, gc, gk), (hA, hc, hv), gs, gd⟩] * Emp)) w_16) := hs
        clear hs
        refine hK.out _ _ ⟨HS.out.chg.cell Z.out.1 id, HS.out.chg.cell Z.out.2.2.1 id⟩ (fun hS0 => ?_)
        clear hK K
        try simp only [Act.put, List.setIfInBounds_toArray, List.set_cons_zero, List.set_cons_succ]
        refine rgn_take (i := 17) (v := ?rv15) rfl (by kernel_rfl) (by kernel_rfl) (by kernel_rfl) (fun _ _ _ h => h) (by rfl) ?rh15 (by assumption) ?rr15
        case rh15 => (intro w hSw; (try dsimp only at hSw); go_simp; try with_reducible rfl)
        simp only [Act.put, List.setIfInBounds_toArray, List.set_cons_zero, List.set_cons_succ]
        refine wpAnyH_done (by kernel_rfl) ?_ _
        have HGr : Hid (EnR w_16.drew ⟨(gA, gc, gk), (hA, hc, hv), gs, gd⟩) := ownE_r (HS.out.drew.right) _ (List.mem_singleton_self _)
        have HEq : Hid (eqE (En.ent ⟨(gA, gc, gk), (hA, hc, hv), gs, gd⟩) (En.ent ⟨(kA, kc, kl), (vA, vc, vl), sq, dd⟩) = true) := (eqE_iff _ _).2 HQ1.out
        have HMay : Hid (hasKey (bitsB (es'.map En.ent)) kl = true) := by unfold Hid; rw [HL3.out]; exact HHas.out
        clear hS0
        go_wp2_with fail
        refine wp_region_held_drew (S := fun w' => w'.cell? ⟨lb, lo + i * 4, none⟩ = some (.slice kA kl.length kc) ∧ w'.cell? ⟨lb, lo + i * 4 + 1, none⟩ = some (.slice vA vl.length vc) ∧ w'.cell? ⟨lb, lo + i * 4 + 2, none⟩ = some (.int .i64 sq) ∧ w'.cell? ⟨lb, lo + i * 4 + 3, none⟩ = some (.bool dd) ∧ w'.cell? ⟨E15, 0, none⟩ = some (.slice gA gk.length gc) ∧ w'.cell? ⟨E15, 1, none⟩ = some (.slice hA hv.length hc) ∧ w'.cell? ⟨E15, 2, none⟩ = some (.int .i64 gs) ∧ w'.cell? ⟨E15, 3, none⟩ = some (.bool gd)) (by kernel_rfl) ⟨HS.out.chg.cell Z.out.1 id, HS.out.chg.cell Z.out.2.1 id, HS.out.chg.cell Z.out.2.2.1 id, HS.out.chg.cell Z.out.2.2.2 id, HS.out.cell 0, HS.out.cell 1, HS.out.cell 2, HS.out.cell 3⟩ ?_
        intro hS0
        refine rgn_take (i := 0) (v := ?rv16) rfl (by kernel_rfl) (by kernel_rfl) (by kernel_rfl) (fun _ _ _ h => h) (by rfl) ?rh16 (by assumption) ?rr16
        case rh16 => (intro w hSw; (try dsimp only at hSw); go_simp; try with_reducible rfl)
        simp only [Act.put, List.setIfInBounds_toArray, List.set_cons_zero, List.set_cons_succ]
        refine rgn_take (i := 1) (v := ?rv17) rfl (by kernel_rfl) (by kernel_rfl) (by kernel_rfl) (fun _ _ _ h => h) (by rfl) ?rh17 (by assumption) ?rr17
        case rh17 => (intro w hSw; (try dsimp only at hSw); go_simp; try with_reducible rfl)
        simp only [Act.put, List.setIfInBounds_toArray, List.set_cons_zero, List.set_cons_succ]
        refine rgn_take (i := 2) (v := ?rv18) rfl (by kernel_rfl) (by kernel_rfl) (by kernel_rfl) (fun _ _ _ h => h) (by rfl) ?rh18 (by assumption) ?rr18
        case rh18 => (intro w hSw; (try dsimp only at hSw); go_simp; try with_reducible rfl)
        simp only [Act.put, List.setIfInBounds_toArray, List.set_cons_zero, List.set_cons_succ]
        refine rgn_take (i := 3) (v := ?rv19) rfl (by kernel_rfl) (by kernel_rfl) (by kernel_rfl) (fun _ _ _ h => h) (by rfl) ?rh19 (by assumption) ?rr19
        case rh19 => (intro w hSw; (try dsimp only at hSw); go_simp; try with_reducible rfl)
        simp only [Act.put, List.setIfInBounds_toArray, List.set_cons_zero, List.set_cons_succ]
        refine rgn_take (i := 4) (v := ?rv20) rfl (by kernel_rfl) (by kernel_rfl) (by kernel_rfl) (fun _ _ _ h => h) (by rfl) ?rh20 (by assumption) ?rr20
        case rh20 => (intro w hSw; (try dsimp only at hSw); go_simp; try with_reducible rfl)
        simp only [Act.put, List.setIfInBounds_toArray, List.set_cons_zero, List.set_cons_succ]
        refine rgn_take (i := 5) (v := ?rv21) rfl (by kernel_rfl) (by kernel_rfl) (by kernel_rfl) (fun _ _ _ h => h) (by rfl) ?rh21 (by assumption) ?rr21
        case rh21 => (intro w hSw; (try dsimp only at hSw); go_simp; try with_reducible rfl)
        simp only [Act.put, List.setIfInBounds_toArray, List.set_cons_zero, List.set_cons_succ]
        refine rgn_take (i := 6) (v := ?rv22) rfl (by kernel_rfl) (by kernel_rfl) (by kernel_rfl) (fun _ _ _ h => h) (by rfl) ?rh22 (by assumption) ?rr22
        case rh22 => (intro w hSw; (try dsimp only at hSw); go_simp; try with_reducible rfl)
        simp only [Act.put, List.setIfInBounds_toArray, List.set_cons_zero, List.set_cons_succ]
        refine rgn_take (i := 7) (v := ?rv23) rfl (by kernel_rfl) (by kernel_rfl) (by kernel_rfl) (fun _ _ _ h => h) (by rfl) ?rh23 (by assumption) ?rr23
        case rh23 => (intro w hSw; (try dsimp only at hSw); go_simp; try with_reducible rfl)
        simp only [Act.put, List.setIfInBounds_toArray, List.set_cons_zero, List.set_cons_succ]
        refine rgn_call (i := 8) rfl (by kernel_rfl) (fun K hK => ?_)
        go_simp
        go_at_call 23; refine (eqE_any ⟨(gA, gc, gk), (hA, hc, hv), gs, gd⟩ ⟨(kA, kc, kl), (vA, vc, vl), sq, dd⟩ _ HGr.out ⟨HRi.out.1.new HS.out.drew.chg, HRi.out.2.new HS.out.drew.chg⟩).mono ?_; rintro x w_17 ⟨rfl, q1⟩; rw [HEq.out]; have HS17 := Lib.hid (HS.out.drew.new q1); clear q1
        refine hK.out _ _ ⟨HS17.out.chg.cell Z.out.1 id, HS17.out.chg.cell Z.out.2.1 id, HS17.out.chg.cell Z.out.2.2.1 id, HS17.out.chg.cell Z.out.2.2.2 id, HS17.out.cell 0, HS17.out.cell 1, HS17.out.cell 2, HS17.out.cell 3⟩ (fun hS0 => ?_)
        clear hK K
        refine rgn_take (i := 9) (v := ?rv25) rfl (by kernel_rfl) (by kernel_rfl) (by kernel_rfl) (fun _ _ _ h => h) (by rfl) ?rh25 (by assumption) ?rr25
        case rh25 => (intro w hSw; (try dsimp only at hSw); go_simp; try with_reducible rfl)
        simp only [Act.put, List.setIfInBounds_toArray, List.set_cons_zero, List.set_cons_succ]
        refine rgn_take (i := 10) (v := ?rv26) rfl (by kernel_rfl) (by kernel_rfl) (by kernel_rfl) (fun _ _ _ h => h) (by rfl) ?rh26 (by assumption) ?rr26
        case rh26 => (intro w hSw; (try dsimp only at hSw); go_simp; try with_reducible rfl)
        simp only [Act.put, List.setIfInBounds_toArray, List.set_cons_zero, List.set_cons_succ]
        refine rgn_take (i := 11) (v := ?rv27) rfl (by kernel_rfl) (by kernel_rfl) (by kernel_rfl) (fun _ _ _ h => h) (by rfl) ?rh27 (by assumption) ?rr27
        case rh27 => (intro w hSw; (try dsimp only at hSw); go_simp; try with_reducible rfl)
        simp only [Act.put, List.setIfInBounds_toArray, List.set_cons_zero, List.set_cons_succ]
        refine rgn_take (i := 12) (v := ?rv28) rfl (by kernel_rfl) (by kernel_rfl) (by kernel_rfl) (fun _ _ _ h => h) (by rfl) ?rh28 (by assumption) ?rr28
        case rh28 => (intro w hSw; (try dsimp only at hSw); go_simp; try with_reducible rfl)
        simp only [Act.put, List.setIfInBounds_toArray, List.set_cons_zero, List.set_cons_succ]
        refine rgn_take (i := 13) (v := ?rv29) rfl (by kernel_rfl) (by kernel_rfl) (by kernel_rfl) (fun _ _ _ h => h) (by rfl) ?rh29 (by assumption) ?rr29
        case rh29 => (intro w hSw; (try dsimp only at hSw); go_simp; try with_reducible rfl)
        simp only [Act.put, List.setIfInBounds_toArray, List.set_cons_zero, List.set_cons_succ]
        refine rgn_take (i := 14) (v := ?rv30) rfl (by kernel_rfl) (by kernel_rfl) (by kernel_rfl) (fun _ _ _ h => h) (by rfl) ?rh30 (by assumption) ?rr30
        case rh30 => (intro w hSw; (try dsimp only at hSw); go_simp; try with_reducible rfl)
        simp only [Act.put, List.setIfInBounds_toArray, List.set_cons_zero, List.set_cons_succ]
        refine rgn_take (i := 15) (v := ?rv31) rfl (by kernel_rfl) (by kernel_rfl) (by kernel_rfl) (fun _ _ _ h => h) (by rfl) ?rh31 (by assumption) ?rr31
        case rh31 => (intro w hSw; (try dsimp only at hSw); go_simp; try with_reducible rfl)
        simp only [Act.put, List.setIfInBounds_toArray, List.set_cons_zero, List.set_cons_succ]
        refine rgn_take (i := 16) (v := ?rv32) rfl (by kernel_rfl) (by kernel_rfl) (by kernel_rfl) (fun _ _ _ h => h) (by rfl) ?rh32 (by assumption) ?rr32
        case rh32 => (intro w hSw; (try dsimp only at hSw); go_simp; try with_reducible rfl)
        simp only [Act.put, List.setIfInBounds_toArray, List.set_cons_zero, List.set_cons_succ]
        refine rgn_take (i := 17) (v := ?rv33) rfl (by kernel_rfl) (by kernel_rfl) (by kernel_rfl) (fun _ _ _ h => h) (by rfl) ?rh33 (by assumption) ?rr33
        case rh33 => (intro w hSw; (try dsimp only at hSw); go_simp; try with_reducible rfl)
        simp only [Act.put, List.setIfInBounds_toArray, List.set_cons_zero, List.set_cons_succ]
        refine rgn_call (i := 18) rfl (by kernel_rfl) (fun K hK => ?_)
        go_simp
        go_at_call 34; refine (tmay_any (kA, kc, kl) T es' _ (HRi.out.1.new HS17.out.chg) (by show kl.length ≤ _; omega) (HT8.out.new HS17.out.chg)).mono ?_; rintro x w_18 ⟨rfl, q1⟩; rw [HMay.out]; have HS18 := Lib.hid (HS17.out.new q1); clear q1
        refine hK.out _ _ ⟨HS18.out.chg.cell Z.out.1 id, HS18.out.chg.cell Z.out.2.1 id, HS18.out.chg.cell Z.out.2.2.1 id, HS18.out.chg.cell Z.out.2.2.2 id, HS18.out.cell 0, HS18.out.cell 1, HS18.out.cell 2, HS18.out.cell 3⟩ (fun hS0 => ?_)
        clear hK K
        refine rgn_take (i := 19) (v := ?rv35) rfl (by kernel_rfl) (by kernel_rfl) (by kernel_rfl) (fun _ _ _ h => h) (by rfl) ?rh35 (by assumption) ?rr35
        case rh35 => (intro w hSw; (try dsimp only at hSw); go_simp; try with_reducible rfl)
        simp only [Act.put, List.setIfInBounds_toArray, List.set_cons_zero, List.set_cons_succ]
        refine rgn_take (i := 20) (v := ?rv36) rfl (by kernel_rfl) (by kernel_rfl) (by kernel_rfl) (fun _ _ _ h => h) (by rfl) ?rh36 (by assumption) ?rr36
        case rh36 => (intro w hSw; (try dsimp only at hSw); go_simp; try with_reducible rfl)
        simp only [Act.put, List.setIfInBounds_toArray, List.set_cons_zero, List.set_cons_succ]
        refine wpAnyH_done (by kernel_rfl) ?_ _
        go_wp2_with fail
        go_roundw
        · exact ⟨i + 1, by omega, by push_cast; rfl, HS18.out.right.right⟩
        · simp [intOf]; omega
      ·
        go_simp
        have hs := HS.out.allocPt 34 #[.slice none 0 0, .slice none 0 0, .int .i64 0, .bool false]
        revert hs
        generalize World.alloc wd _ = w_15
        generalize wd.heap.size = E15
        intro hs
        replace HS : Hid (Sat w8 (Pt E15 34 #[.slice none 0 0, .slice none 0 0, .int .i64 0, .bool false] * Emp) w_15) := hs
        clear hs
        refine hK.out _ _ ⟨HS.out.chg.cell Z.out.1 id, HS.out.chg.cell Z.out.2.2.1 id⟩ (fun hS0 => ?_)
        clear hK K
        refine rgn_call (i := 11) rfl (by kernel_rfl) (fun K hK => ?_)
        go_simp
        go_at_call 33
        refine (tget_any (kA, kc, kl) sq T es' _ (HRi.out.1.new HS.out.chg) (HT8.out.new HS.out.chg)).mono ?_
        rintro x w_11 ⟨⟨⟨gA, gc, gk⟩, ⟨hA, hc, hv⟩, gs, gd⟩, rfl, q1, q2⟩
        rw [show es'.map En.ent = L from HL3.out, show getL kl sq L = some ⟨kl, vl, sq, dd⟩ from HGe.out] at q1 ⊢
        replace HS : Hid (Sat w8 (Pt E15 34 #[.slice none 0 0, .slice none 0 0, .int .i64 0, .bool false] * (OwnE [⟨(gA, gc, gk), (hA, hc, hv), gs, gd⟩] * Emp)) w_11) := (HS.out.join q2 (ownedE _)).of (by ac_rfl)
        have HQ1 := Lib.hid q1
        clear q1 q2
        simp only [enA]
        refine hK.out _ _ ⟨HS.out.chg.cell Z.out.1 id, HS.out.chg.cell Z.out.2.2.1 id⟩ (fun hS0 => ?_)
        clear hK K
        refine rgn_take (i := 12) (v := ?rv37) rfl (by kernel_rfl) (by kernel_rfl) (by kernel_rfl) (fun _ _ _ h => h) (by rfl) ?rh37 (by assumption) ?rr37
        case rh37 => (intro w hSw; (try dsimp only at hSw); go_simp; try with_reducible rfl)
        simp only [Act.put, List.setIfInBounds_toArray, List.set_cons_zero, List.set_cons_succ]
        refine rgn_take (i := 13) (v := ?rv38) rfl (by kernel_rfl) (by kernel_rfl) (by kernel_rfl) (fun _ _ _ h => h) (by rfl) ?rh38 (by assumption) ?rr38
        case rh38 => (intro w hSw; (try dsimp only at hSw); go_simp; try with_reducible rfl)
        simp only [Act.put, List.setIfInBounds_toArray, List.set_cons_zero, List.set_cons_succ]
        refine rgn_take (i := 14) (v := ?rv39) rfl (by kernel_rfl) (by kernel_rfl) (by kernel_rfl) (fun _ _ _ h => h) (by rfl) ?rh39 (by assumption) ?rr39
        case rh39 => (intro w hSw; (try dsimp only at hSw); go_simp; try with_reducible rfl)
        simp only [Act.put, List.setIfInBounds_toArray, List.set_cons_zero, List.set_cons_succ]
        refine rgn_call (i := 16) rfl (by kernel_rfl) (fun K hK => ?_)
        have f0 := HS.out.frozen 0; have f1 := HS.out.frozen 1; have f2 := HS.out.frozen 2; have f3 := HS.out.frozen 3
        have d0 := HS.out.cell 0; have d1 := HS.out.cell 1; have d2 := HS.out.cell 2; have d3 := HS.out.cell 3
        go_simp
        have hs := (((HS.out.set 0 (.slice gA gk.length gc)).set 1 (.slice hA hv.length hc)).set 2 (.int .i64 gs)).set 3 (.bool gd)
        clear f0 f1 f2 f3 d0 d1 d2 d3
        revert hs
        generalize World.setCell _ _ _ = w_16
        intro hs
        replace HS : Hid (Sat w8 (Pt E15 34 #[.slice gA gk.length gc, .slice hA hv.length hc, .int .i64 gs, .bool gd] * (OwnE [⟨(gA, gc, gk), (hA, hc, hv), gs, gd⟩] * Emp)) w_16) := hs
        clear hs
        refine hK.out _ _ ⟨HS.out.chg.cell Z.out.1 id, HS.out.chg.cell Z.out.2.2.1 id⟩ (fun hS0 => ?_)
        clear hK K
        try simp only [Act.put, List.setIfInBounds_toArray, List.set_cons_zero, List.set_cons_succ]
        refine rgn_take (i := 17) (v := ?rv40) rfl (by kernel_rfl) (by kernel_rfl) (by kernel_rfl) (fun _ _ _ h => h) (by rfl) ?rh40 (by assumption) ?rr40
        case rh40 => (intro w hSw; (try dsimp only at hSw); go_simp; try with_reducible rfl)
        simp only [Act.put, List.setIfInBounds_toArray, List.set_cons_zero, List.set_cons_succ]
        refine wpAnyH_done (by kernel_rfl) ?_ _
        have HGr : Hid (EnR w_16.drew ⟨(gA, gc, gk), (hA, hc, hv), gs, gd⟩) := ownE_r (HS.out.drew.right) _ (List.mem_singleton_self _)
        have HEq : Hid (eqE (En.ent ⟨(gA, gc, gk), (hA, hc, hv), gs, gd⟩) (En.ent ⟨(kA, kc, kl), (vA, vc, vl), sq, dd⟩) = true) := (eqE_iff _ _).2 HQ1.out
        have HMay : Hid (hasKey (bitsB (es'.map En.ent)) kl = true) := by unfold Hid; rw [HL3.out]; exact HHas.out
        clear hS0
        go_wp2_with fail
        refine wp_region_held_drew (S := fun w' => w'.cell? ⟨lb, lo + i * 4, none⟩ = some (.slice kA kl.length kc) ∧ w'.cell? ⟨lb, lo + i * 4 + 1, none⟩ = some (.slice vA vl.length vc) ∧ w'.cell? ⟨lb, lo + i * 4 + 2, none⟩ = some (.int .i64 sq) ∧ w'.cell? ⟨lb, lo + i * 4 + 3, none⟩ = some (.bool dd) ∧ w'.cell? ⟨E15, 0, none⟩ = some (.slice gA gk.length gc) ∧ w'.cell? ⟨E15, 1, none⟩ = some (.slice hA hv.length hc) ∧ w'.cell? ⟨E15, 2, none⟩ = some (.int .i64 gs) ∧ w'.cell? ⟨E15, 3, none⟩ = some (.bool gd)) (by kernel_rfl) ⟨HS.out.chg.cell Z.out.1 id, HS.out.chg.cell Z.out.2.1 id, HS.out.chg.cell Z.out.2.2.1 id, HS.out.chg.cell Z.out.2.2.2 id, HS.out.cell 0, HS.out.cell 1, HS.out.cell 2, HS.out.cell 3⟩ ?_
        intro hS0
        refine rgn_take (i := 0) (v := ?rv41) rfl (by kernel_rfl) (by kernel_rfl) (by kernel_rfl) (fun _ _ _ h => h) (by rfl) ?rh41 (by assumption) ?rr41
        case rh41 => (intro w hSw; (try dsimp only at hSw); go_simp; try with_reducible rfl)
        simp only [Act.put, List.setIfInBounds_toArray, List.set_cons_zero, List.set_cons_succ]
        refine rgn_take (i := 1) (v := ?rv42) rfl (by kernel_rfl) (by kernel_rfl) (by kernel_rfl) (fun _ _ _ h => h) (by rfl) ?rh42 (by assumption) ?rr42
        case rh42 => (intro w hSw; (try dsimp only at hSw); go_simp; try with_reducible rfl)
        simp only [Act.put, List.setIfInBounds_toArray, List.set_cons_zero, List.set_cons_succ]
        refine rgn_take (i := 2) (v := ?rv43) rfl (by kernel_rfl) (by kernel_rfl) (by kernel_rfl) (fun _ _ _ h => h) (by rfl) ?rh43 (by assumption) ?rr43
        case rh43 => (intro w hSw; (try dsimp only at hSw); go_simp; try with_reducible rfl)
        simp only [Act.put, List.setIfInBounds_toArray, List.set_cons_zero, List.set_cons_succ]
        refine rgn_take (i := 3) (v := ?rv44) rfl (by kernel_rfl) (by kernel_rfl) (by kernel_rfl) (fun _ _ _ h => h) (by rfl) ?rh44 (by assumption) ?rr44
        case rh44 => (intro w hSw; (try dsimp only at hSw); go_simp; try with_reducible rfl)
        simp only [Act.put, List.setIfInBounds_toArray, List.set_cons_zero, List.set_cons_succ]
        refine rgn_take (i := 4) (v := ?rv45) rfl (by kernel_rfl) (by kernel_rfl) (by kernel_rfl) (fun _ _ _ h => h) (by rfl) ?rh45 (by assumption) ?rr45
        case rh45 => (intro w hSw; (try dsimp only at hSw); go_simp; try with_reducible rfl)
        simp only [Act.put, List.setIfInBounds_toArray, List.set_cons_zero, List.set_cons_succ]
        refine rgn_take (i := 5) (v := ?rv46) rfl (by kernel_rfl) (by kernel_rfl) (by kernel_rfl) (fun _ _ _ h => h) (by rfl) ?rh46 (by assumption) ?rr46
        case rh46 => (intro w hSw; (try dsimp only at hSw); go_simp; try with_reducible rfl)
        simp only [Act.put, List.setIfInBounds_toArray, List.set_cons_zero, List.set_cons_succ]
        refine rgn_take (i := 6) (v := ?rv47) rfl (by kernel_rfl) (by kernel_rfl) (by kernel_rfl) (fun _ _ _ h => h) (by rfl) ?rh47 (by assumption) ?rr47
        case rh47 => (intro w hSw; (try dsimp only at hSw); go_simp; try with_reducible rfl)
        simp only [Act.put, List.setIfInBounds_toArray, List.set_cons_zero, List.set_cons_succ]
        refine rgn_take (i := 7) (v := ?rv48) rfl (by kernel_rfl) (by kernel_rfl) (by kernel_rfl) (fun _ _ _ h => h) (by rfl) ?rh48 (by assumption) ?rr48
        case rh48 => (intro w hSw; (try dsimp only at hSw); go_simp; try with_reducible rfl)
        simp only [Act.put, List.setIfInBounds_toArray, List.set_cons_zero, List.set_cons_succ]
        refine rgn_call (i := 8) rfl (by kernel_rfl) (fun K hK => ?_)
        go_simp
        go_at_call 23; refine (eqE_any ⟨(gA, gc, gk), (hA, hc, hv), gs, gd⟩ ⟨(kA, kc, kl), (vA, vc, vl), sq, dd⟩ _ HGr.out ⟨HRi.out.1.new HS.out.drew.chg, HRi.out.2.new HS.out.drew.chg⟩).mono ?_; rintro x w_17 ⟨rfl, q1⟩; rw [HEq.out]; have HS17 := Lib.hid (HS.out.drew.new q1); clear q1
        refine hK.out _ _ ⟨HS17.out.chg.cell Z.out.1 id, HS17.out.chg.cell Z.out.2.1 id, HS17.out.chg.cell Z.out.2.2.1 id, HS17.out.chg.cell Z.out.2.2.2 id, HS17.out.cell 0, HS17.out.cell 1, HS17.out.cell 2, HS17.out.cell 3⟩ (fun hS0 => ?_)
        clear hK K
        refine rgn_take (i := 9) (v := ?rv50) rfl (by kernel_rfl) (by kernel_rfl) (by kernel_rfl) (fun _ _ _ h => h) (by rfl) ?rh50 (by assumption) ?rr50
        case rh50 => (intro w hSw; (try dsimp only at hSw); go_simp; try with_reducible rfl)
        simp only [Act.put, List.setIfInBounds_toArray, List.set_cons_zero, List.set_cons_succ]
        refine rgn_take (i := 10) (v := ?rv51) rfl (by kernel_rfl) (by kernel_rfl) (by kernel_rfl) (fun _ _ _ h => h) (by rfl) ?rh51 (by assumption) ?rr51
        case rh51 => (intro w hSw; (try dsimp only at hSw); go_simp; try with_reducible rfl)
        simp only [Act.put, List.setIfInBounds_toArray, List.set_cons_zero, List.set_cons_succ]
        refine rgn_take (i := 11) (v := ?rv52) rfl (by kernel_rfl) (by kernel_rfl) (by kernel_rfl) (fun _ _ _ h => h) (by rfl) ?rh52 (by assumption) ?rr52
        case rh52 => (intro w hSw; (try dsimp only at hSw); go_simp; try with_reducible rfl)
        simp only [Act.put, List.setIfInBounds_toArray, List.set_cons_zero, List.set_cons_succ]
        refine rgn_take (i := 12) (v := ?rv53) rfl (by kernel_rfl) (by kernel_rfl) (by kernel_rfl) (fun _ _ _ h => h) (by rfl) ?rh53 (by assumption) ?rr53
        case rh53 => (intro w hSw; (try dsimp only at hSw); go_simp; try with_reducible rfl)
        simp only [Act.put, List.setIfInBounds_toArray, List.set_cons_zero, List.set_cons_succ]
        refine rgn_take (i := 13) (v := ?rv54) rfl (by kernel_rfl) (by kernel_rfl) (by kernel_rfl) (fun _ _ _ h => h) (by rfl) ?rh54 (by assumption) ?rr54
        case rh54 => (intro w hSw; (try dsimp only at hSw); go_simp; try with_reducible rfl)
        simp only [Act.put, List.setIfInBounds_toArray, List.set_cons_zero, List.set_cons_succ]
        refine rgn_take (i := 14) (v := ?rv55) rfl (by kernel_rfl) (by kernel_rfl) (by kernel_rfl) (fun _ _ _ h => h) (by rfl) ?rh55 (by assumption) ?rr55
        case rh55 => (intro w hSw; (try dsimp only at hSw); go_simp; try with_reducible rfl)
        simp only [Act.put, List.setIfInBounds_toArray, List.set_cons_zero, List.set_cons_succ]
        refine rgn_take (i := 15) (v := ?rv56) rfl (by kernel_rfl) (by kernel_rfl) (by kernel_rfl) (fun _ _ _ h => h) (by rfl) ?rh56 (by assumption) ?rr56
        case rh56 => (intro w hSw; (try dsimp only at hSw); go_simp; try with_reducible rfl)
        simp only [Act.put, List.setIfInBounds_toArray, List.set_cons_zero, List.set_cons_succ]
        refine rgn_take (i := 16) (v := ?rv57) rfl (by kernel_rfl) (by kernel_rfl) (by kernel_rfl) (fun _ _ _ h => h) (by rfl) ?rh57 (by assumption) ?rr57
        case rh57 => (intro w hSw; (try dsimp only at hSw); go_simp; try with_reducible rfl)
        simp only [Act.put, List.setIfInBounds_toArray, List.set_cons_zero, List.set_cons_succ]
        refine rgn_take (i := 17) (v := ?rv58) rfl (by kernel_rfl) (by kernel_rfl) (by kernel_rfl) (fun _ _ _ h => h) (by rfl) ?rh58 (by assumption) ?rr58
        case rh58 => (intro w hSw; (try dsimp only at hSw); go_simp; try with_reducible rfl)
        simp only [Act.put, List.setIfInBounds_toArray, List.set_cons_zero, List.set_cons_succ]
        refine rgn_call (i := 18) rfl (by kernel_rfl) (fun K hK => ?_)
        go_simp
        go_at_call 34; refine (tmay_any (kA, kc, kl) T es' _ (HRi.out.1.new HS17.out.chg) (by show kl.length ≤ _; omega) (HT8.out.new HS17.out.chg)).mono ?_; rintro x w_18 ⟨rfl, q1⟩; rw [HMay.out]; have HS18 := Lib.hid (HS17.out.new q1); clear q1
        refine hK.out _ _ ⟨HS18.out.chg.cell Z.out.1 id, HS18.out.chg.cell Z.out.2.1 id, HS18.out.chg.cell Z.out.2.2.1 id, HS18.out.chg.cell Z.out.2.2.2 id, HS18.out.cell 0, HS18.out.cell 1, HS18.out.cell 2, HS18.out.cell 3⟩ (fun hS0 => ?_)
        clear hK K
        refine rgn_take (i := 19) (v := ?rv60) rfl (by kernel_rfl) (by kernel_rfl) (by kernel_rfl) (fun _ _ _ h => h) (by rfl) ?rh60 (by assumption) ?rr60
        case rh60 => (intro w hSw; (try dsimp only at hSw); go_simp; try with_reducible rfl)
        simp only [Act.put, List.setIfInBounds_toArray, List.set_cons_zero, List.set_cons_succ]
        refine rgn_take (i := 20) (v := ?rv61) rfl (by kernel_rfl) (by kernel_rfl) (by kernel_rfl) (fun _ _ _ h => h) (by rfl) ?rh61 (by assumption) ?rr61
        case rh61 => (intro w hSw; (try dsimp only at hSw); go_simp; try with_reducible rfl)
        simp only [Act.put, List.setIfInBounds_toArray, List.set_cons_zero, List.set_cons_succ]
        refine wpAnyH_done (by kernel_rfl) ?_ _
        go_wp2_with fail
        go_roundw
        · exact ⟨i + 1, by omega, by push_cast; rfl, HS18.out.right.right⟩
        · simp [intOf]; omega
    · go_wp2_with fail
      go_ret
      exact ⟨rfl, HC8'.out.tr HD.out.chg⟩
end Go.Proofs.Ytaoenbjfkahdjaa
