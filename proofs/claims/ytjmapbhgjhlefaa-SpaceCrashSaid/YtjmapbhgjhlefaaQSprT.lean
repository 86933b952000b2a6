/- The statements' stands: a space behind a crash, held against the document's. -/
import Derived.Test.YtjmapbhgjhlefaaQSprS
import Derived.Test.YtjmapbhgjhlefaaQGot
namespace Go.Proofs.Ytjmapbhgjhlefaa
open Go.RowKit
set_option linter.unusedVariables false
set_option maxRecDepth 100000

theorem Sat.ownR_rol {w0 w : World} : ∀ (rs : Rows_) {F : SP}, Sat w0 (OwnR rs * F) w → Sat w0 (RoL rs * F) w
  | [], F, h => Sat.rolNil (h.of (emp_star F)) [] (by simp)
  | x :: rs, F, h => by
    obtain ⟨A, c, l⟩ := x
    have h1 : Sat w0 (Row 5 1 (.slice A l.length c) l.length (l.map bv) * (OwnR rs * F)) w := h.of (star_assoc _ _ _)
    have h2 := Sat.row_rbX h1
    have h3 := Sat.ownR_rol rs h2.up2
    have h4 := h3.of (show _ = RoL [(A, c, l)] * (RoL rs * F) by rw [← rb_rol]; ac_rfl)
    exact h4.rol_add
theorem lie_inj : ∀ (l m : List (Nat × Nat × Nat)), (l.map fun x => (⟨x.1, x.2.1, x.2.2⟩ : Fi)) = (m.map fun x => (⟨x.1, x.2.1, x.2.2⟩ : Fi)) → l = m
  | [], [], _ => rfl
  | [], y :: m, h => by cases h
  | x :: l, [], h => by cases h
  | x :: l, y :: m, h => by
    rw [List.map_cons, List.map_cons] at h
    injection h with h1 h2
    injection h1 with e1 e2 e3
    obtain ⟨a, b, c⟩ := x
    obtain ⟨a', b', c'⟩ := y
    simp only at e1 e2 e3
    have q1 : a = a' := by omega
    have q2 : b = b' := by omega
    have q3 : c = c' := by omega
    rw [q1, q2, q3, lie_inj l m h2]
/-- A file's frames may be read. -/
def FrOk (W : World) (f : Rf) : Prop := ∃ A c, f.fv = .slice A f.fr.length c ∧ f.fr.length ≤ c ∧ RdL W A f.fr
def lie3 (f : Rf) : Nat × Nat × Nat := (f.num, f.first, f.blocks)
structure Stand (T : Spc) (fs : List Rf) : Prop where
  lie : T.files.map lieOf = fs.map lie3
  beg : ∀ i (hi : i < fs.length) (hj : i < T.files.length), Beg T.files[i].frames fs[i]
section
variable {w0 w : World} {F G : SP} {s d r N : Nat} {v : Value} {fs : List Rf} {T : Spc} {E : Dk} {sf : Nat → Nat} {lim : Nat}
theorem Sat.fr_rd (h : Sat w0 (FrP fs * F) w) : ∀ f ∈ fs, FrOk w f := fun f hf => by
  obtain ⟨i, hi, rfl⟩ := List.mem_iff_getElem.1 hf
  rw [frp_at fs i hi] at h
  have h1 := h.of (show _ = Row 39 1 fs[i].fv fs[i].fr.length (fs[i].fr.map slOf) * (RoL fs[i].fr * (FrP (fs.eraseIdx i) * F)) by unfold FrR; ac_rfl)
  obtain ⟨A, c, e, hc, _⟩ := Sat.row_sl (h := h1)
  rw [e] at h1
  exact ⟨A, c, e, hc, h1.row_rdvX, fun x hx => h1.up2.rol hx⟩
/-- What stands answers. -/
def StZ (w0 : World) (s d r N : Nat) (T : Spc) (E : Dk) (v : Value) (fs : List Rf) (G : SP) (b : Bool) (e : Ending) (w' : World) : Prop :=
  (b = false → e = .returned (.tuple #[.pointer none, .bool false]) ∧ Sat w0 (SpaceP s d T * (Disk d E * (RSp r N v fs * G))) w') ∧
  (b = true → ∃ t v2 ts, e = .returned (.tuple #[.pointer (some ⟨t, 0, none⟩), .bool true]) ∧ Mat T ts ∧ (∀ f ∈ ts, f.safe = f.fr.length) ∧ Sat w0 (RSp t N v2 ts * (FrP ts * (SpaceP s d T * (Disk d E * (RSp r N v fs * G))))) w')
set_option maxHeartbeats 8000000 in
theorem stands_any (b : Bool) (hb : b = true ↔ Stand T fs) (hg : Good E T sf lim) (h : Sat w0 (SpaceP s d T * (Disk d E * (RSp r N v fs * G))) w) (hl : fs.length ≤ 1000000) (hfr : ∀ W, Sat w0 G W → ∀ f ∈ fs, FrOk W f) (hsz : ∀ f ∈ fs, f.fr.length ≤ 65536) :
    Calls Try.prog 79 #[.pointer (some ⟨s, 0, none⟩), .pointer (some ⟨r, 0, none⟩)] w (StZ w0 s d r N T E v fs G b) := by
  obtain ⟨i0, hi0', hz0', hz1', hz2'⟩ := info_parts info_rf
  have hi0 := Lib.hid hi0'; have hz0 := Lib.hid hz0'; have hz1 := Lib.hid hz1'; have hz2 := Lib.hid hz2'
  have hcnt := hg.fils.ok.count
  have HG := Lib.hid hg; have HS := Lib.hid h; have HFr := Lib.hid hfr; have HSz := Lib.hid hsz; have HB := Lib.hid hb
  have HFi : Hid (∀ W (G : SP), Sat w0 (SpaceP s d T * (Disk d E * G)) W → Calls Try.prog 32 #[.pointer (some ⟨s, 0, none⟩)] W fun e w' => ∃ A c, e = .returned (.slice A (T.files.map lieOf).length c) ∧ Sat w0 (Row 35 3 (.slice A (T.files.map lieOf).length c) (T.files.map lieOf).length ((T.files.map lieOf).flatMap lieV) * (SpaceP s d T * (Disk d E * G))) w') := fun W G hW => (files_sp hg hW).mono fun e w' ⟨u, h1, h2⟩ => by
    rw [List.length_map]
    obtain ⟨A, c, rfl, _⟩ := h2.row_sl
    exact ⟨A, c, h1, h2⟩
  have HRf : Hid (∀ W (G : SP), Sat w0 (RSp r N v fs * G) W → Calls Try.prog 77 #[.pointer (some ⟨r, 0, none⟩)] W fun e w' => ∃ A c, e = .returned (.slice A fs.length c) ∧ Sat w0 (Row 35 3 (.slice A fs.length c) fs.length ((fs.map fiR).flatMap fiI) * (RSp r N v fs * G)) w') := fun W G hW => rfiles_any hW hl
  have hfi : fs.map fiR = (fs.map lie3).map fun x => (⟨x.1, x.2.1, x.2.2⟩ : Fi) := by rw [List.map_map]; rfl
  obtain ⟨b1, hb1⟩ : ∃ b1 : Bool, b1 = true ↔ T.files.map lieOf = fs.map lie3 := by
    by_cases hh : T.files.map lieOf = fs.map lie3
    · exact ⟨true, by simp [hh]⟩
    · exact ⟨false, by simp [hh]⟩
  have HSa : Hid (∀ (W : World) (A A' : Option Addr) (c c' : Nat), RdV W A ((T.files.map lieOf).flatMap lieV) → RdV W A' ((fs.map fiR).flatMap fiI) → Calls Try.prog 36 #[.slice A (T.files.map lieOf).length c, .slice A' fs.length c'] W fun e w' => e = .returned (.bool b1) ∧ ∃ n, w' = W.drewN n) := fun W A A' c c' h1 h2 => by
    have h9 := rsame_any b1 A A' c c' ((T.files.map lieOf).map fun x => (⟨x.1, x.2.1, x.2.2⟩ : Fi)) (fs.map fiR) W (by
      rw [hb1, hfi]
      constructor
      · intro e; rw [e]
      · exact lie_inj _ _) (by rw [← lie_fi]; exact h1) h2 (by rw [List.length_map, List.length_map]; omega) (by rw [List.length_map]; exact hl)
    simp only [List.length_map] at h9 ⊢
    exact h9
  have HB1 := Lib.hid hb1
  have HLl : Hid ((T.files.map lieOf).length = T.files.length) := List.length_map _
  have hll2 : (T.files.map lieOf).length ≤ 24 := by rw [List.length_map]; exact hcnt
  obtain ⟨Tn, hTn⟩ : ∃ n, n = (T.files.map lieOf).length := ⟨_, rfl⟩
  rw [← hTn] at HFi HSa hll2
  clear hi0' hz0' hz1' hz2' hg h hfr hsz hb hcnt hfi hb1 hTn
  cases b1 with
  | false =>
    have HBf : Hid (b = false) := by
      unfold Hid
      cases b with
      | false => rfl
      | true => have := HB1.out.2 (HB.out.1 rfl).lie; cases this
    go_enter Try.func79, Try.ntmps79
    go_wp2_with (first
      | (go_at_call 32; (with_reducible refine (HFi.out _ _ HS.out).mono ?_); rintro e w1 ⟨A1, c1, rfl, hs⟩; have HS1 := Lib.hid (hs.of (show _ = RSp r N v fs * (Row 35 3 (.slice A1 Tn c1) Tn ((T.files.map lieOf).flatMap lieV) * (SpaceP s d T * (Disk d E * G))) by ac_rfl)); clear hs)
      | (go_at_call 77; (with_reducible refine (HRf.out _ _ HS1.out).mono ?_); rintro e w2 ⟨A2, c2, rfl, hs⟩; have HS2 := Lib.hid hs; clear hs)
      | (go_at_call 36; (with_reducible refine (HSa.out _ _ _ _ _ HS2.out.up3.row_rdvX HS2.out.row_rdvX).mono ?_); rintro e w3 ⟨rfl, hn⟩; have HS3 : Hid (Sat w0 (SpaceP s d T * (Disk d E * (RSp r N v fs * G))) w3) := (by obtain ⟨n, rfl⟩ := hn; exact Sat.right (A := Row 35 3 (.slice A1 Tn c1) Tn ((T.files.map lieOf).flatMap lieV) * Row 35 3 (.slice A2 fs.length c2) fs.length ((fs.map fiR).flatMap fiI)) ((HS2.out.drewN n).of (by ac_rfl))); clear hn))
    go_ret2
    exact ⟨fun _ => ⟨rfl, HS3.out⟩, fun hh => by rw [HBf.out] at hh; cases hh⟩
  | true =>
    have HLie : Hid (T.files.map lieOf = fs.map lie3) := HB1.out.1 rfl
    have HLn : Hid (T.files.length = fs.length) := by unfold Hid; have := congrArg List.length HLie.out; simpa using this
    go_enter Try.func79, Try.ntmps79
    go_upto_region 3 with (first
      | (go_at_call 32; (with_reducible refine (HFi.out _ _ HS.out).mono ?_); rintro e w1 ⟨A1, c1, rfl, hs⟩; have HS1 := Lib.hid (hs.of (show _ = RSp r N v fs * (Row 35 3 (.slice A1 Tn c1) Tn ((T.files.map lieOf).flatMap lieV) * (SpaceP s d T * (Disk d E * G))) by ac_rfl)); clear hs)
      | (go_at_call 77; (with_reducible refine (HRf.out _ _ HS1.out).mono ?_); rintro e w2 ⟨A2, c2, rfl, hs⟩; have HS2 := Lib.hid hs; clear hs)
      | (go_at_call 36; (with_reducible refine (HSa.out _ _ _ _ _ HS2.out.up3.row_rdvX HS2.out.row_rdvX).mono ?_); rintro e w3 ⟨rfl, hn⟩; have HS3 : Hid (Sat w0 (SpaceP s d T * (Disk d E * (RSp r N v fs * G))) w3) := (by obtain ⟨n, rfl⟩ := hn; exact Sat.right (A := Row 35 3 (.slice A1 Tn c1) Tn ((T.files.map lieOf).flatMap lieV) * Row 35 3 (.slice A2 fs.length c2) fs.length ((fs.map fiR).flatMap fiI)) ((HS2.out.drewN n).of (by ac_rfl))); clear hn))
    clear HS HS1 HS2 HFi HRf HSa
    have p0 : w3.cell? ⟨r, 0, none⟩ = some (.int .i64 (N : Int)) := (HS3.out.up3.of rsp_d).cell 0
    have h4 := HS3.out.allocPt 65 #[.int .i64 (N : Int), .slice none 0 0]
    go_upto_region 4 with fail
    generalize hW : World.alloc w3 _ = w4
    have hs4 : Sat w0 (Pt w3.heap.size 65 #[.int .i64 (N : Int), .slice none 0 0] * (SpaceP s d T * (Disk d E * (RSp r N v fs * G)))) w4 := by rw [← hW]; exact h4
    clear h4 hW HS3 p0
    revert hs4
    generalize w3.heap.size = t
    intro hs4
    have HS4 : Hid (Sat w0 (RSp t N (.slice none 0 0) [] * (FrP [] * (SpaceP s d T * (Disk d E * (RSp r N v fs * G))))) w4) := (hs4.row_nil 125 5).of (by
      unfold FrP
      have e : RSp t N (.slice none 0 0) [] = Pt t 65 #[.int .i64 (N : Int), .slice none 0 0] * Row 125 5 (.slice none 0 0) 0 [] := rfl
      rw [emp_star, e]
      ac_rfl)
    clear hs4
    obtain ⟨Av, cv, rfl, _⟩ := Sat.row_sl (h := (HS4.out.up5.of rsp_d).up2)
    go_wp2_with fail
    go_loopw [7] (fun iv wr => ∃ (i : Nat) (v2 : Value) (ts : List Rf), i ≤ fs.length ∧ iv = .int .i64 (i : Int) ∧ Hid (ts.map keyR = (T.files.take i).map keyF ∧ (∀ f ∈ ts, f.safe = f.fr.length) ∧ (∀ j (hj : j < fs.length) (hj2 : j < T.files.length), j < i → Beg T.files[j].frames fs[j]) ∧ Sat w0 (RSp t N v2 ts * (FrP ts * (SpaceP s d T * (Disk d E * (RSp r N (.slice Av fs.length cv) fs * G))))) wr)) (fun iv _ => fs.length - (intOf iv).toNat)
    case atStart => exact ⟨0, _, [], by omega, rfl, by rw [List.take_zero]; rfl, by simp, fun j _ _ h => absurd h (by omega), HS4.out⟩
    case round =>
      obtain ⟨i, v2, ts, hi, rfl, HD⟩ := hrel
      have p1 : wr.cell? ⟨r, 1, none⟩ = some (.slice Av fs.length cv) := (HD.out.2.2.2.up5.of rsp_d).cell 1
      by_cases hlt : i < fs.length
      ·
        have hli : (i : Int) < fs.length := by omega
        obtain ⟨g, rfl, _⟩ := Sat.row_at (h := (HD.out.2.2.2.up5.of rsp_d).up2) (by omega)
        have hj : i < T.files.length := by have := HLn.out; omega
        obtain ⟨e1, e2, e3⟩ : T.files[i].num = fs[i].num ∧ T.files[i].first = fs[i].first ∧ T.files[i].blocks = fs[i].blocks := by
          have h8 := congrArg (fun l => l[i]?) HLie.out
          simp only [List.getElem?_map, List.getElem?_eq_getElem hj, List.getElem?_eq_getElem hlt, Option.map_some, Option.some.injEq] at h8
          unfold lieOf lie3 at h8
          injection h8 with h8 h9
          injection h9 with h9 h10
          exact ⟨h8, h9, h10⟩
        have HFd : Hid (T.find (fs[i].num : Int) = some T.files[i]) := by unfold Hid; rw [← e1]; exact find_is HG.out (List.getElem_mem hj)
        obtain ⟨b2, hb2⟩ : ∃ b2 : Bool, b2 = true ↔ Beg T.files[i].frames fs[i] := by
          by_cases hh : Beg T.files[i].frames fs[i]
          · exact ⟨true, by simp [hh]⟩
          · exact ⟨false, by simp [hh]⟩
        have hfile := HG.out.file (List.getElem_mem hj)
        have hsz := HSz.out fs[i] (List.getElem_mem hlt)
        have HFrI : Hid (∀ W, Sat w0 G W → FrOk W fs[i]) := fun W hW => HFr.out W hW _ (List.getElem_mem hlt)
        have HBeg : Hid (b2 = true ↔ Beg T.files[i].frames fs[i]) := hb2
        have HTk : Hid (T.files.take (i + 1) = T.files.take i ++ [T.files[i]]) := List.take_succ_eq_append_getElem hj
        have HC : Hid (∀ W F, Sat w0 (RSp r N (.slice (some ⟨g, 0, none⟩) fs.length cv) fs * F) W → W.cell? ⟨r, 1, none⟩ = some (.slice (some ⟨g, 0, none⟩) fs.length cv) ∧ W.cell? ⟨g, i * 5, none⟩ = some (.int .i64 (fs[i].num : Int)) ∧ W.cell? ⟨g, i * 5 + 1, none⟩ = some (.int .i64 (fs[i].first : Int)) ∧ W.cell? ⟨g, i * 5 + 2, none⟩ = some (.int .i64 (fs[i].blocks : Int)) ∧ W.cell? ⟨g, i * 5 + 3, none⟩ = some fs[i].fv ∧ W.cell? ⟨g, i * 5 + 4, none⟩ = some (.int .i64 (fs[i].safe : Int))) := fun W F hW => by
          obtain ⟨b, o, e, h0, h1, h2, h3, h4⟩ := rf_at hW.rsp_rd hlt
          injection e with e
          injection e with e1 e2
          subst e1; subst e2
          rw [Nat.zero_add] at h0 h1 h2 h3 h4
          exact ⟨(hW.of rsp_d).cell 1, h0, h1, h2, h3, h4⟩
        have HLs : Hid (∀ j (hj : j < fs.length) (hj2 : j < T.files.length), j < i + 1 → b2 = true → Beg T.files[j].frames fs[j]) := fun j hj hj2 h hh => by
          by_cases e : j = i
          · subst e; exact hb2.1 hh
          · exact HD.out.2.2.1 j hj hj2 (by omega)
        have HNo : Hid (b2 = false → b = false) := fun hh => by
          cases b with
          | false => rfl
          | true =>
            have h9 := hb2.2 ((HB.out.1 rfl).beg i hlt hj)
            rw [hh] at h9
            cases h9
        clear hb2
        obtain ⟨f, hf⟩ : ∃ f, f = fs[i] := ⟨_, rfl⟩
        obtain ⟨q, hq⟩ : ∃ q, q = T.files[i] := ⟨_, rfl⟩
        rw [← hf] at e1 e2 e3 HFd hsz HFrI HBeg HC
        rw [← hq] at e1 e2 e3 HFd hfile HBeg HTk
        clear hf hq
        have HE := Lib.hid (And.intro e1 (And.intro e2 e3))
        obtain ⟨q0, q1, q2, q3, q4, q5⟩ := HC.out _ _ HD.out.2.2.2.up5
        have HFs : Hid (∀ W (F : SP), Sat w0 (SpaceP s d T * (Disk d E * F)) W → Calls Try.prog 30 #[.pointer (some ⟨s, 0, none⟩), .int .i64 (f.num : Int)] W fun e w' => ∃ A5 c5 ks, e = .returned (.tuple #[.slice A5 (List.length ks) c5, .int .i64 0]) ∧ txt ks = q.frames ∧ Sat w0 (Row 39 1 (.slice A5 (List.length ks) c5) (List.length ks) (ks.map slOf) * (RoL ks * (SpaceP s d T * (Disk d E * F)))) w') := fun W F hW => (frames_sp HG.out hW HFd.out).mono fun e w' ⟨u, ks, h1, h2, h3⟩ => by
          obtain ⟨A5, c5, rfl, _⟩ := h3.row_sl
          exact ⟨A5, c5, ks, h1, h2, h3⟩
        clear e1 e2 e3 p1
        have HQ1 := Lib.hid (HD.out.2.2.2.of (show _ = SpaceP s d T * (Disk d E * (RSp t N v2 ts * (FrP ts * (RSp r N (.slice (some ⟨g, 0, none⟩) fs.length cv) fs * G)))) by ac_rfl))
        go_upto_region 8 with (go_at_call 30; (with_reducible refine (HFs.out _ _ HQ1.out).mono ?_); rintro e w5 ⟨A5, c5, ks, rfl, hk1, hs⟩; have HK1 := Lib.hid hk1; have HS5 := Lib.hid (hs.of (show _ = RSp r N (.slice (some ⟨g, 0, none⟩) fs.length cv) fs * (Row 39 1 (.slice A5 ks.length c5) ks.length (ks.map slOf) * (RoL ks * (SpaceP s d T * (Disk d E * (RSp t N v2 ts * (FrP ts * G)))))) by ac_rfl)); clear hs hk1)
        clear q0 q1 q2 q3 q4 q5
        obtain ⟨q0, q1, q2, q3, q4, q5⟩ := HC.out _ _ HS5.out
        obtain ⟨Af, cf, hfv, hfc, hfr⟩ := HFrI.out _ HS5.out.right.right.right.right.right.right.right
        have hkl : ks.length ≤ 65536 := by
          have h1 := congrArg List.length HK1.out
          unfold txt at h1
          rw [List.length_map] at h1
          omega
        have HBg : Hid (∀ W, Chg No w5 W → Calls Try.prog 94 #[.slice A5 ks.length c5, .agg #[.int .i64 (f.num : Int), .int .i64 (f.first : Int), .int .i64 (f.blocks : Int), .slice Af f.fr.length cf, .int .i64 (f.safe : Int)]] W fun e w' => e = .returned (.bool b2) ∧ Chg No W w') := fun W hW => begins_any b2 A5 Af c5 cf ks f W hfv ⟨(HS5.out.new hW).up2.row_rdvX, fun x hx => (HS5.out.new hW).up3.rol hx⟩ ⟨hfr.1.new hW, fun x hx => (hfr.2 x hx).new hW⟩ (by rw [HK1.out]; exact HBeg.out) (by omega) (by omega) hfc
        rw [hfv] at q4
        have HFv := Lib.hid hfv
        clear hfv hfr
        cases b2 with
        | false =>
          have HBf := Lib.hid (HNo.out rfl)
          go_wp2_with (first
            | (go_at_call 27; (with_reducible refine (num3_any _ _).mono ?_); rintro e wx ⟨rfl, rfl⟩)
            | (go_at_call 94; (with_reducible refine (HBg.out _ (Chg.refl _ _)).mono ?_); rintro e w6 ⟨rfl, hk⟩; have HS6 := Lib.hid (HS5.out.new hk); clear hk))
          go_ret2
          exact ⟨fun _ => ⟨rfl, Sat.right (A := Row 39 1 (.slice A5 ks.length c5) ks.length (ks.map slOf) * (RoL ks * (RSp t N v2 ts * FrP ts))) (HS6.out.of (by ac_rfl))⟩, fun hh => (by rw [HBf.out] at hh; cases hh)⟩
        | true =>
          go_upto_region 10 with (first
            | (go_at_call 27; (with_reducible refine (num3_any _ _).mono ?_); rintro e wx ⟨rfl, rfl⟩)
            | (go_at_call 94; (with_reducible refine (HBg.out _ (Chg.refl _ _)).mono ?_); rintro e w6 ⟨rfl, hk⟩; have HS6 := Lib.hid (HS5.out.new hk); clear hk))
          obtain ⟨At, ct, rfl, _⟩ := Sat.row_sl (h := (HS6.out.up6.of rsp_d).up2)
          have htl : ts.length ≤ i := by
            have h1 := congrArg List.length HD.out.1
            rw [List.length_map, List.length_map, List.length_take] at h1
            omega
          have hil : i ≤ 24 := by have := HLn.out; have := HG.out.fils.ok.count; omega
          have HM := Lib.hid (HS6.out.of (show _ = Row 125 5 (.slice At ts.length ct) ts.length (ts.flatMap rfV) * (Pt t 65 #[.int .i64 (N : Int), .slice At ts.length ct] * (RSp r N (.slice (some ⟨g, 0, none⟩) fs.length cv) fs * (Row 39 1 (.slice A5 ks.length c5) ks.length (ks.map slOf) * (RoL ks * (SpaceP s d T * (Disk d E * (FrP ts * G))))))) from by
            have e : RSp t N (.slice At ts.length ct) ts = Pt t 65 #[.int .i64 (N : Int), .slice At ts.length ct] * Row 125 5 (.slice At ts.length ct) ts.length (ts.flatMap rfV) := rfl
            rw [e]; ac_rfl))
          have HTw : Hid (∀ W, Sat w0 (Row 125 5 (.slice At ts.length ct) ts.length (ts.flatMap rfV) * (Pt t 65 #[.int .i64 (N : Int), .slice At ts.length ct] * (RSp r N (.slice (some ⟨g, 0, none⟩) fs.length cv) fs * (Row 39 1 (.slice A5 ks.length c5) ks.length (ks.map slOf) * (RoL ks * (SpaceP s d T * (Disk d E * (FrP ts * G)))))))) W → Calls Try.prog 95 #[.slice A5 ks.length c5] W fun e w' => ∃ A8 c8 rs, e = .returned (.slice A8 (List.length rs) c8) ∧ txt rs = txt ks ∧ rs.length = ks.length ∧ Sat w0 (Row 125 5 (.slice At ts.length ct) ts.length (ts.flatMap rfV) * (Pt t 65 #[.int .i64 (N : Int), .slice At ts.length ct] * (RSp r N (.slice (some ⟨g, 0, none⟩) fs.length cv) fs * (Row 39 1 (.slice A8 (List.length rs) c8) (List.length rs) (rs.map slOf) * (RoL rs * (SpaceP s d T * (Disk d E * (FrP ts * G)))))))) w') := fun W hW => (twins_any A5 c5 ks W ⟨hW.up4.row_rdvX, fun x hx => hW.up5.rol hx⟩ (fun x hx => by
              have h1 : x.2.2 ∈ q.frames := by rw [← HK1.out]; exact List.mem_map_of_mem hx
              have := hfile.2.2.1 _ h1
              omega) (by omega)).mono fun e w' ⟨v8, rs, h1, h2, h3, h4⟩ => by
            have h5 := Sat.gotLL hW h4 h3
            obtain ⟨A8, c8, rfl, _⟩ := h5.row_sl
            have h6 := (Sat.ownR_rol rs h5.up2)
            have h7 : rs.length = ks.length := by have := congrArg List.length h2; simpa [txt] using this
            refine ⟨A8, c8, rs, h1, h2, h7, Sat.right (A := Row 39 1 (.slice A5 ks.length c5) ks.length (ks.map slOf) * RoL ks) (h6.of (by ac_rfl))⟩
          clear HS6 HS5 HQ1 q0 q1 q2 q3 q4 q5
          refine rgnz_start (z := 22) (S := fun w' => w'.cell? ⟨t, 1, none⟩ = some (.slice At ts.length ct) ∧ w'.cell? ⟨r, 1, none⟩ = some (.slice (some ⟨g, 0, none⟩) fs.length cv) ∧ w'.cell? ⟨g, i * 5, none⟩ = some (.int .i64 (f.num : Int)) ∧ w'.cell? ⟨g, i * 5 + 1, none⟩ = some (.int .i64 (f.first : Int)) ∧ w'.cell? ⟨g, i * 5 + 2, none⟩ = some (.int .i64 (f.blocks : Int))) (by kernel_rfl) ⟨HM.out.drew.up2.cell 1, (HC.out _ _ HM.out.drew.up3).1, (HC.out _ _ HM.out.drew.up3).2.1, (HC.out _ _ HM.out.drew.up3).2.2.1, (HC.out _ _ HM.out.drew.up3).2.2.2.1⟩ ?_
          intro hS0
          refine rgnz_take (i := 0) (v := ?rv1) rfl (by kernel_rfl) (by kernel_rfl) (by kernel_rfl) (by kernel_rfl) (fun _ _ _ h => h) (by rfl) ?rh1 (by assumption) ?rr1
          case rh1 => (intro w hSw; (try dsimp only at hSw); go_simp; try with_reducible rfl)
          simp only [Act.put, List.setIfInBounds_toArray, List.set_cons_zero, List.set_cons_succ]
          refine rgnz_take (i := 1) (v := ?rv2) rfl (by kernel_rfl) (by kernel_rfl) (by kernel_rfl) (by kernel_rfl) (fun _ _ _ h => h) (by rfl) ?rh2 (by assumption) ?rr2
          case rh2 => (intro w hSw; (try dsimp only at hSw); go_simp; try with_reducible rfl)
          simp only [Act.put, List.setIfInBounds_toArray, List.set_cons_zero, List.set_cons_succ]
          refine rgnz_take (i := 2) (v := ?rv3) rfl (by kernel_rfl) (by kernel_rfl) (by kernel_rfl) (by kernel_rfl) (fun _ _ _ h => h) (by rfl) ?rh3 (by assumption) ?rr3
          case rh3 => (intro w hSw; (try dsimp only at hSw); go_simp; try with_reducible rfl)
          simp only [Act.put, List.setIfInBounds_toArray, List.set_cons_zero, List.set_cons_succ]
          refine rgnz_take (i := 3) (v := ?rv4) rfl (by kernel_rfl) (by kernel_rfl) (by kernel_rfl) (by kernel_rfl) (fun _ _ _ h => h) (by rfl) ?rh4 (by assumption) ?rr4
          case rh4 => (intro w hSw; (try dsimp only at hSw); go_simp; try with_reducible rfl)
          simp only [Act.put, List.setIfInBounds_toArray, List.set_cons_zero, List.set_cons_succ]
          refine rgnz_take (i := 4) (v := ?rv5) rfl (by kernel_rfl) (by kernel_rfl) (by kernel_rfl) (by kernel_rfl) (fun _ _ _ h => h) (by rfl) ?rh5 (by assumption) ?rr5
          case rh5 => (intro w hSw; (try dsimp only at hSw); go_simp; try with_reducible rfl)
          simp only [Act.put, List.setIfInBounds_toArray, List.set_cons_zero, List.set_cons_succ]
          refine rgnz_take (i := 5) (v := ?rv6) rfl (by kernel_rfl) (by kernel_rfl) (by kernel_rfl) (by kernel_rfl) (fun _ _ _ h => h) (by rfl) ?rh6 (by assumption) ?rr6
          case rh6 => (intro w hSw; (try dsimp only at hSw); go_simp; try with_reducible rfl)
          simp only [Act.put, List.setIfInBounds_toArray, List.set_cons_zero, List.set_cons_succ]
          refine rgnz_take (i := 6) (v := ?rv7) rfl (by kernel_rfl) (by kernel_rfl) (by kernel_rfl) (by kernel_rfl) (fun _ _ _ h => h) (by rfl) ?rh7 (by assumption) ?rr7
          case rh7 => (intro w hSw; (try dsimp only at hSw); go_simp; try with_reducible rfl)
          simp only [Act.put, List.setIfInBounds_toArray, List.set_cons_zero, List.set_cons_succ]
          refine rgnz_take (i := 7) (v := ?rv8) rfl (by kernel_rfl) (by kernel_rfl) (by kernel_rfl) (by kernel_rfl) (fun _ _ _ h => h) (by rfl) ?rh8 (by assumption) ?rr8
          case rh8 => (intro w hSw; (try dsimp only at hSw); go_simp; try with_reducible rfl)
          simp only [Act.put, List.setIfInBounds_toArray, List.set_cons_zero, List.set_cons_succ]
          refine rgnz_take (i := 8) (v := ?rv9) rfl (by kernel_rfl) (by kernel_rfl) (by kernel_rfl) (by kernel_rfl) (fun _ _ _ h => h) (by rfl) ?rh9 (by assumption) ?rr9
          case rh9 => (intro w hSw; (try dsimp only at hSw); go_simp; try with_reducible rfl)
          simp only [Act.put, List.setIfInBounds_toArray, List.set_cons_zero, List.set_cons_succ]
          refine rgnz_take (i := 9) (v := ?rv10) rfl (by kernel_rfl) (by kernel_rfl) (by kernel_rfl) (by kernel_rfl) (fun _ _ _ h => h) (by rfl) ?rh10 (by assumption) ?rr10
          case rh10 => (intro w hSw; (try dsimp only at hSw); go_simp; try with_reducible rfl)
          simp only [Act.put, List.setIfInBounds_toArray, List.set_cons_zero, List.set_cons_succ]
          refine rgnz_take (i := 10) (v := ?rv11) rfl (by kernel_rfl) (by kernel_rfl) (by kernel_rfl) (by kernel_rfl) (fun _ _ _ h => h) (by rfl) ?rh11 (by assumption) ?rr11
          case rh11 => (intro w hSw; (try dsimp only at hSw); go_simp; try with_reducible rfl)
          simp only [Act.put, List.setIfInBounds_toArray, List.set_cons_zero, List.set_cons_succ]
          refine rgnz_take (i := 11) (v := ?rv12) rfl (by kernel_rfl) (by kernel_rfl) (by kernel_rfl) (by kernel_rfl) (fun _ _ _ h => h) (by rfl) ?rh12 (by assumption) ?rr12
          case rh12 => (intro w hSw; (try dsimp only at hSw); go_simp; try with_reducible rfl)
          simp only [Act.put, List.setIfInBounds_toArray, List.set_cons_zero, List.set_cons_succ]
          refine rgnz_take (i := 12) (v := ?rv13) rfl (by kernel_rfl) (by kernel_rfl) (by kernel_rfl) (by kernel_rfl) (fun _ _ _ h => h) (by rfl) ?rh13 (by assumption) ?rr13
          case rh13 => (intro w hSw; (try dsimp only at hSw); go_simp; try with_reducible rfl)
          simp only [Act.put, List.setIfInBounds_toArray, List.set_cons_zero, List.set_cons_succ]
          refine rgnz_take (i := 13) (v := ?rv14) rfl (by kernel_rfl) (by kernel_rfl) (by kernel_rfl) (by kernel_rfl) (fun _ _ _ h => h) (by rfl) ?rh14 (by assumption) ?rr14
          case rh14 => (intro w hSw; (try dsimp only at hSw); go_simp; try with_reducible rfl)
          simp only [Act.put, List.setIfInBounds_toArray, List.set_cons_zero, List.set_cons_succ]
          refine rgnz_take (i := 15) (v := ?rv15) rfl (by kernel_rfl) (by kernel_rfl) (by kernel_rfl) (by kernel_rfl) (fun _ _ _ h => h) (by rfl) ?rh15 (by assumption) ?rr15
          case rh15 => (intro w hSw; (try dsimp only at hSw); go_simp; try with_reducible rfl)
          simp only [Act.put, List.setIfInBounds_toArray, List.set_cons_zero, List.set_cons_succ]
          refine rgnz_take (i := 16) (v := ?rv16) rfl (by kernel_rfl) (by kernel_rfl) (by kernel_rfl) (by kernel_rfl) (fun _ _ _ h => h) (by rfl) ?rh16 (by assumption) ?rr16
          case rh16 => (intro w hSw; (try dsimp only at hSw); go_simp; try with_reducible rfl)
          simp only [Act.put, List.setIfInBounds_toArray, List.set_cons_zero, List.set_cons_succ]
          refine rgnz_call (i := 14) rfl (by kernel_rfl) (fun K hK => ?_)
          go_simp
          go_at_call 95; (with_reducible refine (HTw.out _ HM.out.drew).mono ?_); rintro e w7 ⟨A8, c8, rs, rfl, ht, hr, hs⟩; have HT8 := Lib.hid ht; have HR8 := Lib.hid hr; have HS7 := Lib.hid hs; clear ht hr hs
          refine hK.out _ _ ⟨HS7.out.up2.cell 1, (HC.out _ _ HS7.out.up3).1, (HC.out _ _ HS7.out.up3).2.1, (HC.out _ _ HS7.out.up3).2.2.1, (HC.out _ _ HS7.out.up3).2.2.2.1⟩ (fun hS0 => ?_)
          clear hK K
          refine rgnz_take (i := 17) (v := ?rv18) rfl (by kernel_rfl) (by kernel_rfl) (by kernel_rfl) (by kernel_rfl) (fun _ _ _ h => h) (by rfl) ?rh18 (by assumption) ?rr18
          case rh18 => (intro w hSw; (try dsimp only at hSw); go_simp; try with_reducible rfl)
          simp only [Act.put, List.setIfInBounds_toArray, List.set_cons_zero, List.set_cons_succ]
          refine rgnz_call (i := 18) rfl (by kernel_rfl) (fun K hK => ?_)
          go_simp
          have hs := HS7.out.alloc' (.cells #[.int .i64 (f.num : Int), .int .i64 (f.first : Int), .int .i64 (f.blocks : Int), .slice A8 (List.length rs) c8, .int .i64 (ks.length : Int)] 125)
          refine hK.out _ _ ⟨hs.up2.cell 1, (HC.out _ _ hs.up3).1, (HC.out _ _ hs.up3).2.1, (HC.out _ _ hs.up3).2.2.1, (HC.out _ _ hs.up3).2.2.2.1⟩ (fun hS0 => ?_)
          clear hK K
          refine rgnz_call (i := 19) rfl (by kernel_rfl) (fun K hK => ?_)
          refine step_appS rfl (.tmp 64) (.tmp 78) 63 rfl 125 i0 _ 5 56 Try.underlying63 hi0.out hz0.out hz1.out hz2.out rfl (by decide) (.slice At ts.length ct) ts.length (ts.flatMap rfV) rfl w0 _ (by exact HS7.out.alloc' _) (some ⟨w7.heap.size, 0, none⟩) 1 1 [.int .i64 (f.num : Int), .int .i64 (f.first : Int), .int .i64 (f.blocks : Int), .slice A8 (List.length rs) c8, .int .i64 (ks.length : Int)] rfl (lit_rdv _ _ _) rfl (by intro u hu; simp at hu; rcases hu with rfl | rfl | rfl | rfl | rfl <;> rfl) (by unfold maxLen; omega) (by omega) ?_; intro A9 c9 w9 hs; have HS8 := Lib.hid hs; have y1 := hs.up2.cell 1; have y2 := hs.up2.frozen 1; clear hs
          refine hK.out _ _ ⟨HS8.out.up2.cell 1, (HC.out _ _ HS8.out.up3).1, (HC.out _ _ HS8.out.up3).2.1, (HC.out _ _ HS8.out.up3).2.2.1, (HC.out _ _ HS8.out.up3).2.2.2.1⟩ (fun hS0 => ?_)
          clear hK K
          try simp only [Act.put, List.setIfInBounds_toArray, List.set_cons_zero, List.set_cons_succ]
          refine rgnz_call (i := 20) rfl (by kernel_rfl) (fun K hK => ?_)
          go_simp
          refine hK.out _ _ ⟨HS8.out.up2.cell 1, (HC.out _ _ HS8.out.up3).1, (HC.out _ _ HS8.out.up3).2.1, (HC.out _ _ HS8.out.up3).2.2.1, (HC.out _ _ HS8.out.up3).2.2.2.1⟩ (fun hS0 => ?_)
          clear hK K
          refine rgnz_take (i := 21) (v := ?rv22) rfl (by kernel_rfl) (by kernel_rfl) (by kernel_rfl) (by kernel_rfl) (fun _ _ _ h => h) (by rfl) ?rh22 (by assumption) ?rr22
          case rh22 => (intro w hSw; (try dsimp only at hSw); go_simp; try with_reducible rfl)
          simp only [Act.put, List.setIfInBounds_toArray, List.set_cons_zero, List.set_cons_succ]
          refine rgnz_last rfl (by kernel_rfl) (by kernel_rfl) (fun K hK => ?_)
          go_simp
          refine hK.out _ _ ?_
          clear hK K

          have HS9 : Hid (Sat w0 (RSp t N (.slice A9 (ts.length + 1) c9) (ts ++ [⟨f.num, f.first, f.blocks, ks.length, .slice A8 (List.length rs) c8, rs⟩]) * (FrP (ts ++ [⟨f.num, f.first, f.blocks, ks.length, .slice A8 (List.length rs) c8, rs⟩]) * (SpaceP s d T * (Disk d E * (RSp r N (.slice (some ⟨g, 0, none⟩) fs.length cv) fs * G))))) (w9.setCell ⟨t, 1, none⟩ (.slice A9 (ts.length + 1) c9))) := by
            unfold Hid
            have h9 := HS8.out.up2.set 1 (.slice A9 (ts.length + 1) c9)
            refine h9.of ?_
            rw [frp_app, frp_one, rsp_d, rsp_d, List.flatMap_append, List.length_append, List.length_singleton]
            unfold FrR
            show Pt t 65 #[.int .i64 (N : Int), .slice A9 (ts.length + 1) c9] * (Row 125 5 (.slice A9 (ts.length + 1) c9) (ts.length + 1) (ts.flatMap rfV ++ [.int .i64 (f.num : Int), .int .i64 (f.first : Int), .int .i64 (f.blocks : Int), .slice A8 (List.length rs) c8, .int .i64 (ks.length : Int)]) * _) = Pt t 65 #[.int .i64 (N : Int), .slice A9 (ts.length + 1) c9] * (Row 125 5 (.slice A9 (ts.length + 1) c9) (ts.length + 1) (ts.flatMap rfV ++ [.int .i64 (f.num : Int), .int .i64 (f.first : Int), .int .i64 (f.blocks : Int), .slice A8 (List.length rs) c8, .int .i64 (ks.length : Int)]) * _)
            rw [rsp_d]
            ac_rfl
          have HKy : Hid ((ts ++ [(⟨f.num, f.first, f.blocks, ks.length, .slice A8 (List.length rs) c8, rs⟩ : Rf)]).map keyR = (T.files.take (i + 1)).map keyF) := by
            unfold Hid
            rw [HTk.out, List.map_append, List.map_append, HD.out.1]
            congr 1
            unfold keyR keyF
            simp only [List.map_cons, List.map_nil]
            rw [HT8.out, HK1.out, HE.out.1, HE.out.2.1, HE.out.2.2]
          have HSf : Hid (∀ x ∈ ts ++ [(⟨f.num, f.first, f.blocks, ks.length, .slice A8 (List.length rs) c8, rs⟩ : Rf)], x.safe = x.fr.length) := fun x hx => by
            rcases List.mem_append.1 hx with hx | hx
            · exact HD.out.2.1 x hx
            · rw [List.mem_singleton.1 hx]; exact HR8.out.symm
          clear HS8 y1 y2
          go_wp2_with fail
          go_roundw
          · exact ⟨i + 1, .slice A9 (ts.length + 1) c9, ts ++ [⟨f.num, f.first, f.blocks, ks.length, .slice A8 (List.length rs) c8, rs⟩], by omega, by go_num, HKy.out, HSf.out, fun j hj hj2 h => HLs.out j hj hj2 h (by trivial), HS9.out⟩
          · simp [intOf]; omega
      · have hli : ¬ (i : Int) < fs.length := by omega
        have HBt : Hid (b = true) := HB.out.2 ⟨HLie.out, fun j hj hj2 => HD.out.2.2.1 j hj hj2 (by omega)⟩
        have HMt : Hid (Mat T ts) := by
          have h9 := HD.out.1
          rw [List.take_of_length_le (by have := HLn.out; omega)] at h9
          exact h9
        go_wp2_with fail
        go_ret2
        exact ⟨fun hh => (by rw [HBt.out] at hh; cases hh), fun _ => ⟨t, v2, ts, rfl, HMt.out, HD.out.2.1, HD.out.2.2.2⟩⟩
end
end Go.Proofs.Ytjmapbhgjhlefaa
