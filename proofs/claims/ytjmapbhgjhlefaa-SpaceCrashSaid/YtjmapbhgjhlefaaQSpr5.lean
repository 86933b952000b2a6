/- The document's space in memory: Append. -/
import Derived.Test.YtjmapbhgjhlefaaQSpr4
namespace Go.Proofs.Ytjmapbhgjhlefaa
open Go.RowKit
set_option linter.unusedVariables false
set_option maxRecDepth 100000

/-- A file's frames. -/
def FrR (f : Rf) : SP := Row 39 1 f.fv f.fr.length (f.fr.map slOf) * RoL f.fr
def FrP : List Rf → SP
  | [] => Emp
  | f :: fs => FrR f * FrP fs
theorem frp_app : ∀ (a b : List Rf), FrP (a ++ b) = FrP a * FrP b
  | [], b => (emp_star _).symm
  | f :: a, b => by show FrR f * FrP (a ++ b) = (FrR f * FrP a) * FrP b; rw [frp_app a b, star_assoc]
theorem frp_one (f : Rf) : FrP [f] = FrR f := by show FrR f * Emp = _; rw [star_emp]
theorem frp_perm {a b : List Rf} (h : a.Perm b) : FrP a = FrP b := by
  induction h with
  | nil => rfl
  | cons x _ ih => show FrR x * _ = FrR x * _; rw [ih]
  | swap x y l => show FrR y * (FrR x * FrP l) = FrR x * (FrR y * FrP l); ac_rfl
  | trans _ _ ih1 ih2 => rw [ih1, ih2]
theorem frp_at : ∀ (fs : List Rf) (i : Nat) (h : i < fs.length), FrP fs = FrR fs[i] * FrP (fs.eraseIdx i)
  | f :: fs, 0, _ => rfl
  | f :: fs, i + 1, h => by
    have h' : i < fs.length := by simpa using h
    show FrR f * FrP fs = FrR fs[i] * (FrR f * FrP (fs.eraseIdx i))
    rw [frp_at fs i h']
    ac_rfl
theorem frp_set (fs : List Rf) (i : Nat) (h : i < fs.length) (g : Rf) : FrP (fs.set i g) = FrR g * FrP (fs.eraseIdx i) := by
  rw [frp_at (fs.set i g) i (by rw [List.length_set]; exact h), List.getElem_set_self, List.eraseIdx_set_eq]
theorem rf_set {fs : List Rf} {i k : Nat} {u : Value} {g : Rf} (hi : i < fs.length) (hk : k < 5) (hg : (rfV fs[i]).set k u = rfV g) : (fs.flatMap rfV).set (i * 5 + k) u = (fs.set i g).flatMap rfV := by
  have h1 : fs = fs.take i ++ fs[i] :: fs.drop (i + 1) := by rw [List.getElem_cons_drop, List.take_append_drop]
  have h2 : fs.set i g = fs.take i ++ g :: fs.drop (i + 1) := List.set_eq_take_append_cons_drop.trans (if_pos hi)
  have hl : ((fs.take i).flatMap rfV).length = i * 5 := by rw [rfV_len, List.length_take, Nat.min_eq_left (by omega)]
  have h3 : fs.flatMap rfV = (fs.take i).flatMap rfV ++ (rfV fs[i] ++ (fs.drop (i + 1)).flatMap rfV) := by
    conv => lhs; rw [h1]
    rw [List.flatMap_append, List.flatMap_cons]
  rw [h2, h3, List.flatMap_append, List.flatMap_cons, List.set_append_right _ _ (by omega), hl, show i * 5 + k - i * 5 = k by omega, List.set_append_left _ _ (by show k < 5; exact hk), hg]
section
variable {w0 w : World} {F : SP} {r N : Nat} {v : Value} {fs : List Rf}
theorem Sat.fr_ok (h : Sat w0 (FrP fs * F) w) : ∀ f ∈ fs, FvOk f := fun f hf => by
  obtain ⟨i, hi, rfl⟩ := List.mem_iff_getElem.1 hf
  rw [frp_at fs i hi] at h
  obtain ⟨A, c, e, _⟩ := Sat.row_sl (h := (h.of (show _ = Row 39 1 fs[i].fv fs[i].fr.length (fs[i].fr.map slOf) * (RoL fs[i].fr * (FrP (fs.eraseIdx i) * F)) by unfold FrR; ac_rfl)))
  exact ⟨A, c, e⟩
/-- What Append answers. -/
def RAppR (fs : List Rf) (n : Int) (p : List UInt8) (z : Int) (fs' : List Rf) : Prop :=
  (findB fs n = false ∧ z = 34 ∧ fs' = fs) ∨ ∃ i, ∃ hi : i < fs.length, (fs[i].num : Int) = n ∧
    ((480 < p.length ∧ z = 35 ∧ fs' = fs) ∨ (p.length ≤ 480 ∧ fs[i].fr.length = fs[i].blocks ∧ z = 36 ∧ fs' = fs) ∨
     (p.length ≤ 480 ∧ fs[i].fr.length ≠ fs[i].blocks ∧ z = 0 ∧ ∃ fv A c, fs' = fs.set i { fs[i] with fv := fv, fr := fs[i].fr ++ [(A, c, p)] }))
set_option maxHeartbeats 4000000 in
theorem rappend_any (n : Int) (PA : Option Addr) (pc : Nat) (p : List UInt8) (h : Sat w0 (RSp r N v fs * (FrP fs * F)) w) (hl : fs.length ≤ 1000000) (hb : ∀ f ∈ fs, f.fr.length ≤ 65536 ∧ f.blocks ≤ 65536)
    (hp : ∀ W, Sat w0 F W → Rd W PA p) (hpl : p.length ≤ 1000000) :
    Calls Try.prog 38 #[.pointer (some ⟨r, 0, none⟩), .int .i64 n, .slice PA p.length pc] w fun e w' => ∃ z fs', e = .returned (.int .i64 z) ∧ Sat w0 (RSp r N v fs' * (FrP fs' * F)) w' ∧ RAppR fs n p z fs' := by
  obtain ⟨i0, hi0', hz0', hz1', hz2'⟩ := info_parts info_sl
  have hi0 := Lib.hid hi0'; have hz0 := Lib.hid hz0'; have hz1 := Lib.hid hz1'; have hz2 := Lib.hid hz2'
  obtain ⟨j0, hj0', hy0', hy1', hy2'⟩ := info_parts info_u8
  have hj0 := Lib.hid hj0'; have hy0 := Lib.hid hy0'; have hy1 := Lib.hid hy1'; have hy2 := Lib.hid hy2'
  have HF := Lib.hid (rfindZ_any n h hl)
  have HS := Lib.hid h; have HB := Lib.hid hb; have HP := Lib.hid hp
  clear h hb hp hi0' hz0' hz1' hz2' hj0' hy0' hy1' hy2'
  go_enter Try.func38, Try.ntmps38
  cases hf : findB fs n with
  | false =>
    have hz : findZ fs n < 0 := by rw [findZ_no hf]; omega
    have HFn := Lib.hid hf
    clear hf
    generalize findZ fs n = z at *
    go_wp2_with (go_at_call 42; (with_reducible refine HF.out.mono ?_); rintro e wx ⟨rfl, rfl⟩)
    go_ret
    exact ⟨34, fs, rfl, HS.out, .inl ⟨HFn.out, rfl, rfl⟩⟩
  | true =>
    obtain ⟨i, hi, hz, hn⟩ := findZ_is hf
    rw [hz] at HF
    have HN := Lib.hid hn
    clear hf hz hn
    have hiz : ¬ (i : Int) < 0 := by omega
    by_cases h480 : 480 < p.length
    · have h481 : (480 : Int) < p.length := by omega
      go_wp2_with (go_at_call 42; (with_reducible refine HF.out.mono ?_); rintro e wx ⟨rfl, rfl⟩)
      go_ret
      exact ⟨35, fs, rfl, HS.out, .inr ⟨i, hi, HN.out, .inl ⟨h480, rfl, rfl⟩⟩⟩
    have h481 : ¬ (480 : Int) < p.length := by omega
    obtain ⟨Av, cv, rfl, _⟩ := Sat.row_sl (h := (HS.out.of rsp_d).up2)
    obtain ⟨g, hg, _⟩ := Sat.row_at (h := (HS.out.of rsp_d).up2) (by omega)
    subst hg
    have hli : (i : Int) < fs.length := by omega
    have hbi := HB.out fs[i] (List.getElem_mem hi)
    obtain ⟨f, hfe⟩ : ∃ f, f = fs[i] := ⟨_, rfl⟩
    have HE : Hid (FrP fs = FrR f * FrP (fs.eraseIdx i)) := by unfold Hid; rw [hfe]; exact frp_at fs i hi
    have HC : Hid (∀ W, Sat w0 (RSp r N (.slice (some ⟨g, 0, none⟩) fs.length cv) fs * (FrP fs * F)) W → W.cell? ⟨r, 1, none⟩ = some (.slice (some ⟨g, 0, none⟩) fs.length cv) ∧ W.cell? ⟨g, i * 5 + 2, none⟩ = some (.int .i64 (f.blocks : Int)) ∧ W.cell? ⟨g, i * 5 + 3, none⟩ = some f.fv) := fun W hW => by
      obtain ⟨b, o, e, h0, h1, h2, h3, h4⟩ := rf_at hW.rsp_rd hi
      injection e with e
      injection e with e1 e2
      subst e1; subst e2
      rw [Nat.zero_add, ← hfe] at h2 h3
      exact ⟨(hW.of rsp_d).cell 1, h2, h3⟩
    have HSet : Hid (∀ u fr2, (fs.flatMap rfV).set (i * 5 + 3) u = (fs.set i { f with fv := u, fr := fr2 }).flatMap rfV ∧ FrP (fs.set i { f with fv := u, fr := fr2 }) = FrR { f with fv := u, fr := fr2 } * FrP (fs.eraseIdx i)) := fun u fr2 => ⟨rf_set hi (by omega) (by rw [← hfe]; rfl), frp_set fs i hi _⟩
    rw [← hfe] at hbi
    have HFe := Lib.hid hfe
    clear hfe
    obtain ⟨fn, hfn⟩ : ∃ k : Nat, k = f.fr.length := ⟨_, rfl⟩
    obtain ⟨fb, hfb⟩ : ∃ k : Nat, k = f.blocks := ⟨_, rfl⟩
    have HFn := Lib.hid hfn; have HFb := Lib.hid hfb
    rw [← hfn, ← hfb] at hbi
    obtain ⟨Af, cf, hfv⟩ : FvOk f := Sat.fr_ok (h := HS.out.right) f (by rw [HFe.out]; exact List.getElem_mem hi)
    rw [← hfn] at hfv
    have HFv := Lib.hid hfv
    rw [← hfb, hfv] at HC
    clear hfn hfb hfv
    obtain ⟨q0, q2, q3⟩ := HC.out w HS.out
    by_cases hfull : fn = fb
    · have HFl := Lib.hid hfull
      have hb1 : (fn : Int) = (fb : Int) := by omega
      rw [← hb1] at q2
      clear hfull hb1
      go_upto_region 6 with (go_at_call 42; (with_reducible refine HF.out.mono ?_); rintro e wx ⟨rfl, rfl⟩)
      go_quiet (fail)
      go_wp2_with fail
      go_ret
      exact ⟨36, fs, rfl, HS.out.drewN _, .inr ⟨i, hi, HN.out, .inr (.inl ⟨by omega, by rw [← HFe.out, ← HFn.out, ← HFb.out]; exact HFl.out, rfl, rfl⟩)⟩⟩
    · have hb1 : ¬ (fn : Int) = (fb : Int) := by omega
      have HFl := Lib.hid hfull
      have hfl : fn ≤ 65536 := hbi.1
      clear hbi hfull
      go_upto_region 6 with (go_at_call 42; (with_reducible refine HF.out.mono ?_); rintro e wx ⟨rfl, rfl⟩)
      go_quiet (fail)
      have HS5 := Lib.hid (HS.out.drewN nq)
      obtain ⟨w5, hw5⟩ : ∃ W, W = wx.drewN nq := ⟨_, rfl⟩
      rw [← hw5] at HS5
      go_upto_region 8 with fail
      rw [← hw5]
      clear hw5 q0 q2 q3 HS
      have HS6 : Hid (Sat w0 (Row 39 1 (.slice Af fn cf) fn (f.fr.map slOf) * (RoL f.fr * (RSp r N (.slice (some ⟨g, 0, none⟩) fs.length cv) fs * (FrP (fs.eraseIdx i) * F)))) w5) := by
        unfold Hid
        refine HS5.out.of ?_
        rw [HE.out]
        unfold FrR
        rw [HFv.out, ← HFn.out]
        ac_rfl
      have HCk : Hid (∀ W G, Sat w0 (RSp r N (.slice (some ⟨g, 0, none⟩) fs.length cv) fs * G) W → W.cell? ⟨r, 1, none⟩ = some (.slice (some ⟨g, 0, none⟩) fs.length cv) ∧ W.cell? ⟨g, i * 5 + 3, none⟩ = some (.slice Af fn cf)) := fun W G hW => by
        obtain ⟨b, o, e, h0, h1, h2, h3, h4⟩ := rf_at hW.rsp_rd hi
        injection e with e
        injection e with e1 e2
        subst e1; subst e2
        rw [Nat.zero_add, ← HFe.out, HFv.out] at h3
        exact ⟨(hW.of rsp_d).cell 1, h3⟩
      clear HS5 HC
      refine rgnz_start (z := 20) (S := fun w' => w'.cell? ⟨r, 1, none⟩ = some (.slice (some ⟨g, 0, none⟩) fs.length cv) ∧ w'.cell? ⟨g, i * 5 + 3, none⟩ = some (.slice Af fn cf)) (by kernel_rfl) (HCk.out _ _ HS6.out.drew.up3) ?_
      intro hS0
      refine rgnz_take (i := 0) (v := ?rv1) rfl (by kernel_rfl) (by kernel_rfl) (by kernel_rfl) (by kernel_rfl) (fun _ _ _ h => h) (by rfl) ?rh1 (by assumption) ?rr1
      case rh1 => (intro w hSw; (try dsimp only at hSw); go_simp; try with_reducible rfl)
      simp only [Act.put, List.setIfInBounds_toArray, List.set_cons_zero, List.set_cons_succ]
      refine rgnz_take (i := 1) (v := ?rv2) rfl (by kernel_rfl) (by kernel_rfl) (by kernel_rfl) (by kernel_rfl) (fun _ _ _ h => h) (by rfl) ?rh2 (by assumption) ?rr2
      case rh2 => (intro w hSw; (try dsimp only at hSw); go_simp; try with_reducible rfl)
      simp only [Act.put, List.setIfInBounds_toArray, List.set_cons_zero, List.set_cons_succ]
      refine rgnz_take (i := 2) (v := ?rv3) rfl (by kernel_rfl) (by kernel_rfl) (by kernel_rfl) (by kernel_rfl) (fun _ _ _ h => h) (by rfl) ?rh3 (by assumption) ?rr3
      case rh3 => (intro w hSw; (try dsimp only at hSw); go_simp; try with_reducible rfl)
      simp only [Act.put, List.setIfInBounds_toArray, List.set_cons_zero, List.set_cons_succ]
      refine rgnz_take (i := 3) (v := ?rv4) rfl (by kernel_rfl) (by kernel_rfl) (by kernel_rfl) (by kernel_rfl) (fun _ _ _ h => h) (by rfl) ?rh4 (by assumption) ?rr4
      case rh4 => (intro w hSw; (try dsimp only at hSw); go_simp; try with_reducible rfl)
      simp only [Act.put, List.setIfInBounds_toArray, List.set_cons_zero, List.set_cons_succ]
      refine rgnz_take (i := 4) (v := ?rv5) rfl (by kernel_rfl) (by kernel_rfl) (by kernel_rfl) (by kernel_rfl) (fun _ _ _ h => h) (by rfl) ?rh5 (by assumption) ?rr5
      case rh5 => (intro w hSw; (try dsimp only at hSw); go_simp; try with_reducible rfl)
      simp only [Act.put, List.setIfInBounds_toArray, List.set_cons_zero, List.set_cons_succ]
      refine rgnz_take (i := 5) (v := ?rv6) rfl (by kernel_rfl) (by kernel_rfl) (by kernel_rfl) (by kernel_rfl) (fun _ _ _ h => h) (by rfl) ?rh6 (by assumption) ?rr6
      case rh6 => (intro w hSw; (try dsimp only at hSw); go_simp; try with_reducible rfl)
      simp only [Act.put, List.setIfInBounds_toArray, List.set_cons_zero, List.set_cons_succ]
      refine rgnz_take (i := 6) (v := ?rv7) rfl (by kernel_rfl) (by kernel_rfl) (by kernel_rfl) (by kernel_rfl) (fun _ _ _ h => h) (by rfl) ?rh7 (by assumption) ?rr7
      case rh7 => (intro w hSw; (try dsimp only at hSw); go_simp; try with_reducible rfl)
      simp only [Act.put, List.setIfInBounds_toArray, List.set_cons_zero, List.set_cons_succ]
      refine rgnz_take (i := 7) (v := ?rv8) rfl (by kernel_rfl) (by kernel_rfl) (by kernel_rfl) (by kernel_rfl) (fun _ _ _ h => h) (by rfl) ?rh8 (by assumption) ?rr8
      case rh8 => (intro w hSw; (try dsimp only at hSw); go_simp; try with_reducible rfl)
      simp only [Act.put, List.setIfInBounds_toArray, List.set_cons_zero, List.set_cons_succ]
      refine rgnz_take (i := 8) (v := ?rv9) rfl (by kernel_rfl) (by kernel_rfl) (by kernel_rfl) (by kernel_rfl) (fun _ _ _ h => h) (by rfl) ?rh9 (by assumption) ?rr9
      case rh9 => (intro w hSw; (try dsimp only at hSw); go_simp; try with_reducible rfl)
      simp only [Act.put, List.setIfInBounds_toArray, List.set_cons_zero, List.set_cons_succ]
      refine rgnz_take (i := 9) (v := ?rv10) rfl (by kernel_rfl) (by kernel_rfl) (by kernel_rfl) (by kernel_rfl) (fun _ _ _ h => h) (by rfl) ?rh10 (by assumption) ?rr10
      case rh10 => (intro w hSw; (try dsimp only at hSw); go_simp; try with_reducible rfl)
      simp only [Act.put, List.setIfInBounds_toArray, List.set_cons_zero, List.set_cons_succ]
      refine rgnz_take (i := 10) (v := ?rv11) rfl (by kernel_rfl) (by kernel_rfl) (by kernel_rfl) (by kernel_rfl) (fun _ _ _ h => h) (by rfl) ?rh11 (by assumption) ?rr11
      case rh11 => (intro w hSw; (try dsimp only at hSw); go_simp; try with_reducible rfl)
      simp only [Act.put, List.setIfInBounds_toArray, List.set_cons_zero, List.set_cons_succ]
      refine rgnz_take (i := 11) (v := ?rv12) rfl (by kernel_rfl) (by kernel_rfl) (by kernel_rfl) (by kernel_rfl) (fun _ _ _ h => h) (by rfl) ?rh12 (by assumption) ?rr12
      case rh12 => (intro w hSw; (try dsimp only at hSw); go_simp; try with_reducible rfl)
      simp only [Act.put, List.setIfInBounds_toArray, List.set_cons_zero, List.set_cons_succ]
      refine rgnz_take (i := 12) (v := ?rv13) rfl (by kernel_rfl) (by kernel_rfl) (by kernel_rfl) (by kernel_rfl) (fun _ _ _ h => h) (by rfl) ?rh13 (by assumption) ?rr13
      case rh13 => (intro w hSw; (try dsimp only at hSw); go_simp; try with_reducible rfl)
      simp only [Act.put, List.setIfInBounds_toArray, List.set_cons_zero, List.set_cons_succ]
      refine rgnz_take (i := 14) (v := ?rv14) rfl (by kernel_rfl) (by kernel_rfl) (by kernel_rfl) (by kernel_rfl) (fun _ _ _ h => h) (by rfl) ?rh14 (by assumption) ?rr14
      case rh14 => (intro w hSw; (try dsimp only at hSw); go_simp; try with_reducible rfl)
      simp only [Act.put, List.setIfInBounds_toArray, List.set_cons_zero, List.set_cons_succ]
      refine rgnz_call (i := 13) rfl (by kernel_rfl) (fun K hK => ?_)
      go_simp
      have hs := ((HS6.out.allocPt 5 #[]).row_pt (n := 0) (cap := 0) (size := 1) (Nat.le_refl _) (Nat.zero_le _) rfl).drew; revert hs; generalize World.drew (World.alloc w5 _) = w7; generalize w5.heap.size = g7; intro hs; have HS7 := Lib.hid hs; clear hs
      refine hK.out _ _ (HCk.out _ _ HS7.out.up4) (fun hS0 => ?_)
      clear hK K
      refine rgnz_call (i := 15) rfl (by kernel_rfl) (fun K hK => ?_)
      refine step_appS rfl (.tmp 48) (.tmp 49) 39 rfl 5 j0 _ 1 1 Try.underlying39 hj0.out hy0.out hy1.out hy2.out rfl (by decide) (.slice (some ⟨g7, 0, none⟩) 0 0) 0 [] rfl w0 _ (by exact HS7.out) PA p.length pc (p.map bv) rfl (by exact HP.out _ HS7.out.right.right.right.right.right) (by simp) (bv_one p) (by unfold maxLen; omega) (by omega) ?_; intro A8 c8 w8 hs; rw [Nat.zero_add, List.nil_append] at hs; rw [Nat.zero_add]; have HS8 : Hid (Sat w0 (RoL [(A8, c8, p)] * (Row 39 1 (.slice Af fn cf) fn (f.fr.map slOf) * (RoL f.fr * (RSp r N (.slice (some ⟨g, 0, none⟩) fs.length cv) fs * (FrP (fs.eraseIdx i) * F))))) w8) := (Sat.row_rbX hs).of (by rw [← rb_rol]); clear hs
      refine hK.out _ _ (HCk.out _ _ HS8.out.up4) (fun hS0 => ?_)
      clear hK K
      try simp only [Act.put, List.setIfInBounds_toArray, List.set_cons_zero, List.set_cons_succ]
      refine rgnz_call (i := 16) rfl (by kernel_rfl) (fun K hK => ?_)
      go_simp
      have hs := HS8.out.alloc' (.cells #[.slice A8 p.length c8] 39)
      refine hK.out _ _ (HCk.out _ _ hs.up4) (fun hS0 => ?_)
      clear hK K
      refine rgnz_call (i := 17) rfl (by kernel_rfl) (fun K hK => ?_)
      refine step_appS rfl (.tmp 47) (.tmp 51) 38 rfl 39 i0 _ 1 24 Try.underlying38 hi0.out hz0.out hz1.out hz2.out rfl (by decide) (.slice Af fn cf) fn (f.fr.map slOf) rfl w0 _ (by exact (HS8.out.alloc' _).up2) (some ⟨w8.heap.size, 0, none⟩) 1 1 [slOf (A8, c8, p)] rfl (lit_rdv _ _ _) rfl (slOf_oneX _) (by unfold maxLen; omega) (by omega) ?_; intro A9 c9 w9 hs; have HS9 := Lib.hid hs; have y1 := (HCk.out _ _ hs.up4).2; have y2 : w9.frozen? ⟨g, i * 5 + 3, none⟩ = false := (hs.up4.of rsp_d).up2.row_free _; clear hs
      refine hK.out _ _ (HCk.out _ _ HS9.out.up4) (fun hS0 => ?_)
      clear hK K
      try simp only [Act.put, List.setIfInBounds_toArray, List.set_cons_zero, List.set_cons_succ]
      refine rgnz_call (i := 18) rfl (by kernel_rfl) (fun K hK => ?_)
      go_simp
      refine hK.out _ _ (HCk.out _ _ HS9.out.up4) (fun hS0 => ?_)
      clear hK K
      refine rgnz_take (i := 19) (v := ?rv20) rfl (by kernel_rfl) (by kernel_rfl) (by kernel_rfl) (by kernel_rfl) (fun _ _ _ h => h) (by rfl) ?rh20 (by assumption) ?rr20
      case rh20 => (intro w hSw; (try dsimp only at hSw); go_simp; try with_reducible rfl)
      simp only [Act.put, List.setIfInBounds_toArray, List.set_cons_zero, List.set_cons_succ]
      refine rgnz_last rfl (by kernel_rfl) (by kernel_rfl) (fun K hK => ?_)
      go_simp
      refine hK.out _ _ ?_
      clear hK K

      have hs10 := ((HS9.out.up4.of rsp_d).up2.row_setj (j := i * 5 + 3) (.slice A9 (fn + 1) c9))
      rw [(HSet.out (.slice A9 (fn + 1) c9) (f.fr ++ [(A8, c8, p)])).1] at hs10
      have HS11 : Hid (Sat w0 (RSp r N (.slice (some ⟨g, 0, none⟩) fs.length cv) (fs.set i { f with fv := .slice A9 (fn + 1) c9, fr := f.fr ++ [(A8, c8, p)] }) * (FrP (fs.set i { f with fv := .slice A9 (fn + 1) c9, fr := f.fr ++ [(A8, c8, p)] }) * F)) (w9.setCell ⟨g, i * 5 + 3, none⟩ (.slice A9 (fn + 1) c9))) := by
        unfold Hid
        refine hs10.of ?_
        rw [(HSet.out (.slice A9 (fn + 1) c9) (f.fr ++ [(A8, c8, p)])).2]
        unfold FrR RSp
        rw [List.length_set, List.map_append, List.length_append, List.length_singleton, ← HFn.out, ← rol_app]
        show _ = _ * (((Row 39 1 (.slice A9 (fn + 1) c9) (fn + 1) (f.fr.map slOf ++ [slOf (A8, c8, p)]) * (RoL f.fr * RoL [(A8, c8, p)])) * FrP (fs.eraseIdx i)) * F)
        ac_rfl
      clear hs10 HS9 y1 y2
      go_wp2_with fail
      go_ret
      exact ⟨0, rfl, _, HS11.out, .inr ⟨i, hi, HN.out, .inr (.inr ⟨by omega, by rw [← HFe.out, ← HFn.out, ← HFb.out]; exact HFl.out, rfl, .slice A9 (fn + 1) c9, A8, c8, by rw [HFe.out]⟩)⟩⟩
end
end Go.Proofs.Ytjmapbhgjhlefaa
