/- The statements' opened: behind a crash, the space anew and what it is now. -/
import Derived.Test.YtjmapbhgjhlefaaQSprT
import Derived.Test.YtjmapbhgjhlefaaQStep2
namespace Go.Proofs.Ytjmapbhgjhlefaa
open Go.RowKit
set_option linter.unusedVariables false
set_option maxRecDepth 100000

section
variable {w0 w : World} {G : SP} {d r u N : Nat} {v vu : Value} {fs us : List Rf} {T : Spc} {D : Dk} {sf : Nat → Nat} {lim : Nat}
set_option maxHeartbeats 4000000 in
theorem opened_one (yq yn yk yt yc : Int) (aA dA bA kA : Option Addr) (ac dc bc kc : Nat) (al : List Fi) (dl : List Int) (bl : List UInt8) (kl : List Bool) (uv : Value) (hst : Stand T fs) (hg : Good (D.crash kl yt yc) T sf lim) (ho : openX (D.crash kl yt yc) = (some T, 0))
    (h : Sat w0 (Disk d D * (RSp r N v fs * (G))) w) (hN : D.cells.length = N ∧ 2 ≤ N ∧ N ≤ 65536) (hpe : D.pend.length ≤ 1000000000) (hk : RdV w0 kA (kl.map Value.bool)) (hkl : kl.length ≤ 140737488351232) (hl : fs.length ≤ 1000000) (hfr : ∀ W, Sat w0 G W → ∀ f ∈ fs, FrOk W f) (hsz : ∀ f ∈ fs, f.fr.length ≤ 65536) :
    Calls Try.prog 46 #[.pointer (some ⟨d, 0, none⟩), .pointer (some ⟨r, 0, none⟩), uv, .agg #[.int .i64 yq, .int .i64 yn, .int .i64 yk, .slice aA al.length ac, .slice dA dl.length dc, .slice bA bl.length bc, .slice kA kl.length kc, .int .i64 yt, .int .i64 yc]] w fun e w' => ∃ (s t : Nat) (v2 : Value) (ts : List Rf), e = .returned (.tuple #[.pointer (some ⟨s, 0, none⟩), .pointer (some ⟨t, 0, none⟩)]) ∧ Mat T ts ∧ (∀ f ∈ ts, f.safe = f.fr.length) ∧ Sat w0 (SpaceP s d T * (Disk d (D.crash kl yt yc) * (RSp t N v2 ts * (FrP ts * G)))) w' := by
  obtain ⟨q, hq⟩ : ∃ q, q = Sat.arg h hk := ⟨_, rfl⟩
  have HS0 := Lib.hid (q.of (show _ = Disk d D * (Ro kA (kl.map Value.bool) * (RSp r N v fs * (G))) by ac_rfl))
  clear q hq
  have HX : Hid (∀ W (F : SP), Sat w0 (Disk d D * F) W → Calls Try.prog 21 #[.pointer (some ⟨d, 0, none⟩)] W fun e w' => e = .returned (.tuple #[]) ∧ Sat w0 (Disk d { D with off := true } * F) w') := fun W F hW => cut_any d D w0 W _ hW
  have HOn : Hid (∀ W (F : SP), Sat w0 (Disk d { D with off := true } * (Ro kA (kl.map Value.bool) * F)) W → Calls Try.prog 22 #[.pointer (some ⟨d, 0, none⟩), .slice kA kl.length kc, .int .i64 yt, .int .i64 yc] W fun e w' => e = .returned (.tuple #[]) ∧ Sat w0 (Disk d (D.crash kl yt yc) * (Ro kA (kl.map Value.bool) * F)) w') := fun W F hW => on_any d { D with off := true } kA kc kl yt yc w0 W _ hW (by show D.pend.length ≤ _; omega) (by omega)
  have hcl : (D.crash kl yt yc).cells.length = N := by rw [crash_len]; exact hN.1
  obtain ⟨E, hE⟩ : ∃ E, E = (D.crash kl yt yc) := ⟨_, rfl⟩
  rw [← hE] at HOn hg ho hcl ⊢
  have HOp : Hid (∀ W (F : SP), Sat w0 (Disk d E * F) W → Calls Try.prog 16 #[.pointer (some ⟨d, 0, none⟩)] W fun e w' => ∃ s, e = .returned (.tuple #[.pointer (some ⟨s, 0, none⟩), .int .i64 0]) ∧ Sat w0 (SpaceP s d T * (Disk d E * F)) w') := fun W F hW => by
    refine (open_any hW (by rw [hcl]; omega) (by rw [hcl]; omega)).mono ?_
    rintro e w' ⟨p, h1, h2⟩
    rw [ho] at h1 h2
    obtain ⟨s, rfl⟩ := opt_some h2
    exact ⟨s, h1, h2⟩
  have HSt : Hid (∀ W s, Sat w0 (SpaceP s d T * (Disk d E * (RSp r N v fs * (G)))) W → Calls Try.prog 79 #[.pointer (some ⟨s, 0, none⟩), .pointer (some ⟨r, 0, none⟩)] W fun e w' => ∃ t v2 ts, e = .returned (.tuple #[.pointer (some ⟨t, 0, none⟩), .bool true]) ∧ Mat T ts ∧ (∀ f ∈ ts, f.safe = f.fr.length) ∧ Sat w0 (SpaceP s d T * (Disk d E * (RSp t N v2 ts * (FrP ts * G)))) w') := fun W s hW => (stands_any true (by simp [hst]) hg hW hl hfr hsz).mono fun e w' hz => by
    obtain ⟨t, v2, ts, h1, h2, h3, h4⟩ := hz.2 rfl
    exact ⟨t, v2, ts, h1, h2, h3, Sat.right (A := RSp r N v fs) (h4.of (by ac_rfl))⟩
  have h1 := HS0.out.allocPt 67 #[.int .i64 yq, .int .i64 yn, .int .i64 yk, .slice aA al.length ac, .slice dA dl.length dc, .slice bA bl.length bc, .slice kA kl.length kc, .int .i64 yt, .int .i64 yc]
  clear hg ho hcl hE h hpe hk hfr hsz hst
  go_enter Try.func46, Try.ntmps46
  go_upto_region 1 with fail
  revert h1
  generalize World.alloc w _ = w1
  generalize w.heap.size = gx
  intro h1
  have HS1 := Lib.hid (h1.of (show _ = Disk d D * (Pt gx 67 #[.int .i64 yq, .int .i64 yn, .int .i64 yk, .slice aA al.length ac, .slice dA dl.length dc, .slice bA bl.length bc, .slice kA kl.length kc, .int .i64 yt, .int .i64 yc] * (Ro kA (kl.map Value.bool) * (RSp r N v fs * (G)))) by ac_rfl))
  clear h1 HS0
  go_upto_region 2 with (go_at_call 21; (with_reducible refine (HX.out _ _ HS1.out).mono ?_); rintro e w2 ⟨rfl, hs⟩; have HS2 := Lib.hid hs; clear hs)
  have c6 := HS2.out.up2.cell 6; have c7 := HS2.out.up2.cell 7; have c8 := HS2.out.up2.cell 8
  simp only [List.getElem?_toArray, List.getElem?_cons_zero, List.getElem?_cons_succ] at c6 c7 c8
  have HS3 := Lib.hid (HS2.out.of (show _ = Disk d { D with off := true } * (Ro kA (kl.map Value.bool) * (Pt gx 67 #[.int .i64 yq, .int .i64 yn, .int .i64 yk, .slice aA al.length ac, .slice dA dl.length dc, .slice bA bl.length bc, .slice kA kl.length kc, .int .i64 yt, .int .i64 yc] * (RSp r N v fs * (G)))) by ac_rfl))
  clear HS1 HS2 HX
  go_upto_region 3 with (go_at_call 22; (with_reducible refine (HOn.out _ _ HS3.out).mono ?_); rintro e w3 ⟨rfl, hs⟩; have HS4 := Lib.hid hs; clear hs)
  clear HS3 HOn c6 c7 c8
  go_upto_region 6 with (first
    | (go_at_call 16; (with_reducible refine (HOp.out _ _ HS4.out).mono ?_); rintro e w4 ⟨s, rfl, hs⟩; have HS5 : Hid (Sat w0 (SpaceP s d T * (Disk d E * (RSp r N v fs * (G)))) w4) := (Sat.right (A := Ro kA (kl.map Value.bool) * Pt gx 67 #[.int .i64 yq, .int .i64 yn, .int .i64 yk, .slice aA al.length ac, .slice dA dl.length dc, .slice bA bl.length bc, .slice kA kl.length kc, .int .i64 yt, .int .i64 yc]) (hs.of (by ac_rfl))); clear hs)
    | (go_at_call 27; (with_reducible refine (num3_any _ _).mono ?_); rintro e wx ⟨rfl, rfl⟩))
  clear HS4 HOp
  go_wp2_with (go_at_call 79; (with_reducible refine (HSt.out _ _ HS5.out).mono ?_); rintro e w6 ⟨t, v2, ts, rfl, hm, hsf, hs⟩; have HS7 := Lib.hid hs; have HM := Lib.hid hm; have HSf := Lib.hid hsf; clear hs hm hsf)
  go_ret2
  exact ⟨s, t, v2, ts, rfl, HM.out, HSf.out, HS7.out⟩
set_option maxHeartbeats 4000000 in
theorem opened_two (yq yn yk yt yc : Int) (aA dA bA kA : Option Addr) (ac dc bc kc : Nat) (al : List Fi) (dl : List Int) (bl : List UInt8) (kl : List Bool) (hno : ¬ Stand T fs) (hst : Stand T us) (hl2 : us.length ≤ 1000000) (hfr2 : ∀ W, Sat w0 G W → ∀ f ∈ us, FrOk W f) (hsz2 : ∀ f ∈ us, f.fr.length ≤ 65536) (hg : Good (D.crash kl yt yc) T sf lim) (ho : openX (D.crash kl yt yc) = (some T, 0))
    (h : Sat w0 (Disk d D * (RSp r N v fs * (RSp u N vu us * G))) w) (hN : D.cells.length = N ∧ 2 ≤ N ∧ N ≤ 65536) (hpe : D.pend.length ≤ 1000000000) (hk : RdV w0 kA (kl.map Value.bool)) (hkl : kl.length ≤ 140737488351232) (hl : fs.length ≤ 1000000) (hfr : ∀ W, Sat w0 G W → ∀ f ∈ fs, FrOk W f) (hsz : ∀ f ∈ fs, f.fr.length ≤ 65536) :
    Calls Try.prog 46 #[.pointer (some ⟨d, 0, none⟩), .pointer (some ⟨r, 0, none⟩), .pointer (some ⟨u, 0, none⟩), .agg #[.int .i64 yq, .int .i64 yn, .int .i64 yk, .slice aA al.length ac, .slice dA dl.length dc, .slice bA bl.length bc, .slice kA kl.length kc, .int .i64 yt, .int .i64 yc]] w fun e w' => ∃ (s t : Nat) (v2 : Value) (ts : List Rf), e = .returned (.tuple #[.pointer (some ⟨s, 0, none⟩), .pointer (some ⟨t, 0, none⟩)]) ∧ Mat T ts ∧ (∀ f ∈ ts, f.safe = f.fr.length) ∧ Sat w0 (SpaceP s d T * (Disk d (D.crash kl yt yc) * (RSp t N v2 ts * (FrP ts * G)))) w' := by
  obtain ⟨q, hq⟩ : ∃ q, q = Sat.arg h hk := ⟨_, rfl⟩
  have HS0 := Lib.hid (q.of (show _ = Disk d D * (Ro kA (kl.map Value.bool) * (RSp r N v fs * (RSp u N vu us * G))) by ac_rfl))
  clear q hq
  have HX : Hid (∀ W (F : SP), Sat w0 (Disk d D * F) W → Calls Try.prog 21 #[.pointer (some ⟨d, 0, none⟩)] W fun e w' => e = .returned (.tuple #[]) ∧ Sat w0 (Disk d { D with off := true } * F) w') := fun W F hW => cut_any d D w0 W _ hW
  have HOn : Hid (∀ W (F : SP), Sat w0 (Disk d { D with off := true } * (Ro kA (kl.map Value.bool) * F)) W → Calls Try.prog 22 #[.pointer (some ⟨d, 0, none⟩), .slice kA kl.length kc, .int .i64 yt, .int .i64 yc] W fun e w' => e = .returned (.tuple #[]) ∧ Sat w0 (Disk d (D.crash kl yt yc) * (Ro kA (kl.map Value.bool) * F)) w') := fun W F hW => on_any d { D with off := true } kA kc kl yt yc w0 W _ hW (by show D.pend.length ≤ _; omega) (by omega)
  have hcl : (D.crash kl yt yc).cells.length = N := by rw [crash_len]; exact hN.1
  obtain ⟨E, hE⟩ : ∃ E, E = (D.crash kl yt yc) := ⟨_, rfl⟩
  rw [← hE] at HOn hg ho hcl ⊢
  have HOp : Hid (∀ W (F : SP), Sat w0 (Disk d E * F) W → Calls Try.prog 16 #[.pointer (some ⟨d, 0, none⟩)] W fun e w' => ∃ s, e = .returned (.tuple #[.pointer (some ⟨s, 0, none⟩), .int .i64 0]) ∧ Sat w0 (SpaceP s d T * (Disk d E * F)) w') := fun W F hW => by
    refine (open_any hW (by rw [hcl]; omega) (by rw [hcl]; omega)).mono ?_
    rintro e w' ⟨p, h1, h2⟩
    rw [ho] at h1 h2
    obtain ⟨s, rfl⟩ := opt_some h2
    exact ⟨s, h1, h2⟩
  have HSt : Hid (∀ W s, Sat w0 (SpaceP s d T * (Disk d E * (RSp r N v fs * (RSp u N vu us * G)))) W → Calls Try.prog 79 #[.pointer (some ⟨s, 0, none⟩), .pointer (some ⟨r, 0, none⟩)] W fun e w' => e = .returned (.tuple #[.pointer none, .bool false]) ∧ Sat w0 (SpaceP s d T * (Disk d E * (RSp r N v fs * (RSp u N vu us * G)))) w') := fun W s hW => (stands_any false (by simp [hno]) hg hW hl (fun W hW => hfr W hW.right) hsz).mono fun e w' hz => hz.1 rfl
  have HSu : Hid (∀ W s, Sat w0 (SpaceP s d T * (Disk d E * (RSp r N v fs * (RSp u N vu us * G)))) W → Calls Try.prog 79 #[.pointer (some ⟨s, 0, none⟩), .pointer (some ⟨u, 0, none⟩)] W fun e w' => ∃ t v2 ts, e = .returned (.tuple #[.pointer (some ⟨t, 0, none⟩), .bool true]) ∧ Mat T ts ∧ (∀ f ∈ ts, f.safe = f.fr.length) ∧ Sat w0 (SpaceP s d T * (Disk d E * (RSp t N v2 ts * (FrP ts * G)))) w') := fun W s hW => (stands_any true (by simp [hst]) hg (hW.of (show _ = SpaceP s d T * (Disk d E * (RSp u N vu us * (RSp r N v fs * G))) by ac_rfl)) hl2 (fun W hW => hfr2 W hW.right) hsz2).mono fun e w' hz => by
    obtain ⟨t, v2, ts, h1, h2, h3, h4⟩ := hz.2 rfl
    exact ⟨t, v2, ts, h1, h2, h3, Sat.right (A := RSp u N vu us * RSp r N v fs) (h4.of (by ac_rfl))⟩
  have h1 := HS0.out.allocPt 67 #[.int .i64 yq, .int .i64 yn, .int .i64 yk, .slice aA al.length ac, .slice dA dl.length dc, .slice bA bl.length bc, .slice kA kl.length kc, .int .i64 yt, .int .i64 yc]
  clear hg ho hcl hE h hpe hk hfr hsz hst hno hfr2 hsz2
  go_enter Try.func46, Try.ntmps46
  go_upto_region 1 with fail
  revert h1
  generalize World.alloc w _ = w1
  generalize w.heap.size = gx
  intro h1
  have HS1 := Lib.hid (h1.of (show _ = Disk d D * (Pt gx 67 #[.int .i64 yq, .int .i64 yn, .int .i64 yk, .slice aA al.length ac, .slice dA dl.length dc, .slice bA bl.length bc, .slice kA kl.length kc, .int .i64 yt, .int .i64 yc] * (Ro kA (kl.map Value.bool) * (RSp r N v fs * (RSp u N vu us * G)))) by ac_rfl))
  clear h1 HS0
  go_upto_region 2 with (go_at_call 21; (with_reducible refine (HX.out _ _ HS1.out).mono ?_); rintro e w2 ⟨rfl, hs⟩; have HS2 := Lib.hid hs; clear hs)
  have c6 := HS2.out.up2.cell 6; have c7 := HS2.out.up2.cell 7; have c8 := HS2.out.up2.cell 8
  simp only [List.getElem?_toArray, List.getElem?_cons_zero, List.getElem?_cons_succ] at c6 c7 c8
  have HS3 := Lib.hid (HS2.out.of (show _ = Disk d { D with off := true } * (Ro kA (kl.map Value.bool) * (Pt gx 67 #[.int .i64 yq, .int .i64 yn, .int .i64 yk, .slice aA al.length ac, .slice dA dl.length dc, .slice bA bl.length bc, .slice kA kl.length kc, .int .i64 yt, .int .i64 yc] * (RSp r N v fs * (RSp u N vu us * G)))) by ac_rfl))
  clear HS1 HS2 HX
  go_upto_region 3 with (go_at_call 22; (with_reducible refine (HOn.out _ _ HS3.out).mono ?_); rintro e w3 ⟨rfl, hs⟩; have HS4 := Lib.hid hs; clear hs)
  clear HS3 HOn c6 c7 c8
  go_upto_region 6 with (first
    | (go_at_call 16; (with_reducible refine (HOp.out _ _ HS4.out).mono ?_); rintro e w4 ⟨s, rfl, hs⟩; have HS5 : Hid (Sat w0 (SpaceP s d T * (Disk d E * (RSp r N v fs * (RSp u N vu us * G)))) w4) := (Sat.right (A := Ro kA (kl.map Value.bool) * Pt gx 67 #[.int .i64 yq, .int .i64 yn, .int .i64 yk, .slice aA al.length ac, .slice dA dl.length dc, .slice bA bl.length bc, .slice kA kl.length kc, .int .i64 yt, .int .i64 yc]) (hs.of (by ac_rfl))); clear hs)
    | (go_at_call 27; (with_reducible refine (num3_any _ _).mono ?_); rintro e wx ⟨rfl, rfl⟩))
  clear HS4 HOp
  go_wp2_with (first
    | (go_at_call 79; (with_reducible refine (HSt.out _ _ HS5.out).mono ?_); rintro e w5 ⟨rfl, hs⟩; have HS6 := Lib.hid hs; clear hs)
    | (go_at_call 79; (with_reducible refine (HSu.out _ _ HS6.out).mono ?_); rintro e w6 ⟨t, v2, ts, rfl, hm, hsf, hs⟩; have HS7 := Lib.hid hs; have HM := Lib.hid hm; have HSf := Lib.hid hsf; clear hs hm hsf))
  go_ret2
  exact ⟨s, t, v2, ts, rfl, HM.out, HSf.out, HS7.out⟩
end
end Go.Proofs.Ytjmapbhgjhlefaa
