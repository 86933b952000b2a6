/- The statements' alike: a space tells what the document's has. -/
import Derived.Test.YtjmapbhgjhlefaaQ14
import Derived.Test.YtjmapbhgjhlefaaQSpr6
import Derived.Test.YtjmapbhgjhlefaaQOwnL2
namespace Go.Proofs.Ytjmapbhgjhlefaa
open Go.RowKit
set_option linter.unusedVariables false
set_option maxRecDepth 100000

def keyF (f : Fl) : Nat × Nat × Nat × List (List UInt8) := (f.num, f.first, f.blocks, f.frames)
def keyR (f : Rf) : Nat × Nat × Nat × List (List UInt8) := (f.num, f.first, f.blocks, txt f.fr)
/-- The document's files are these. -/
def Mat (S : Spc) (fs : List Rf) : Prop := fs.map keyR = S.files.map keyF
section
variable {w0 w : World} {F : SP} {r N s d : Nat} {v : Value} {fs : List Rf} {S : Spc} {D : Dk} {sf : Nat → Nat} {lim : Nat}
theorem Mat.len (h : Mat S fs) : fs.length = S.files.length := by have := congrArg List.length h; simpa using this
theorem Mat.nums (h : Mat S fs) : fs.map (·.num) = S.files.map (·.num) := by
  have h1 := congrArg (List.map (fun k : Nat × Nat × Nat × List (List UInt8) => k.1)) h
  rw [List.map_map, List.map_map] at h1
  exact h1
theorem Mat.at (h : Mat S fs) {i : Nat} (hi : i < fs.length) : ∃ hj : i < S.files.length, fs[i].num = S.files[i].num ∧ fs[i].first = S.files[i].first ∧ fs[i].blocks = S.files[i].blocks ∧ txt fs[i].fr = S.files[i].frames := by
  have hj : i < S.files.length := by rw [← h.len]; exact hi
  refine ⟨hj, ?_⟩
  have h1 := congrArg (fun l => l[i]?) h
  simp only [List.getElem?_map, List.getElem?_eq_getElem hi, List.getElem?_eq_getElem hj, Option.map_some, Option.some.injEq] at h1
  unfold keyR keyF at h1
  injection h1 with e1 h1
  injection h1 with e2 h1
  injection h1 with e3 e4
  exact ⟨e1, e2, e3, e4⟩
theorem Mat.lies (h : Mat S fs) : S.files.map lieOf = fs.map fun f => (f.num, f.first, f.blocks) := by
  have h1 := congrArg (List.map (fun k : Nat × Nat × Nat × List (List UInt8) => (k.1, k.2.1, k.2.2.1))) h
  rw [List.map_map, List.map_map] at h1
  exact h1.symm
theorem lie_fi (l : List (Nat × Nat × Nat)) : l.flatMap lieV = (l.map fun x => (⟨x.1, x.2.1, x.2.2⟩ : Fi)).flatMap fiI := by
  induction l with
  | nil => rfl
  | cons x l ih => rw [List.flatMap_cons, ih]; rfl
theorem fiR_lie (fs : List Rf) : fs.map fiR = (fs.map fun f => (f.num, f.first, f.blocks)).map fun x => (⟨x.1, x.2.1, x.2.2⟩ : Fi) := by rw [List.map_map]; rfl
theorem Mat.free (h : Mat S fs) (x : Int) : freeN x S.files = fs.foldl (fun (x : Int) (f : Rf) => x - (f.blocks : Int)) x := by
  have h1 : ∀ (a : List Fl) (b : List Rf) (x : Int), b.map (·.blocks) = a.map (·.blocks) → freeN x a = b.foldl (fun (x : Int) (f : Rf) => x - (f.blocks : Int)) x := by
    intro a
    induction a with
    | nil => intro b x hb; cases b with | nil => rfl | cons y b => cases hb
    | cons f a ih =>
      intro b x hb
      cases b with
      | nil => cases hb
      | cons y b =>
        rw [List.map_cons, List.map_cons] at hb
        injection hb with e1 e2
        rw [List.foldl_cons, ← ih b _ e2, e1]
        rfl
  refine h1 _ _ x ?_
  have h2 := congrArg (List.map (fun k : Nat × Nat × Nat × List (List UInt8) => k.2.2.1)) h
  rw [List.map_map, List.map_map] at h2
  exact h2
set_option maxHeartbeats 4000000 in
theorem alike_any (hg : Good D S sf lim) (hm : Mat S fs) (h : Sat w0 (SpaceP s d S * (Disk d D * (RSp r D.cells.length v fs * (FrP fs * F)))) w) :
    Calls Try.prog 43 #[.pointer (some ⟨s, 0, none⟩), .pointer (some ⟨r, 0, none⟩)] w fun e w' => e = .returned (.bool true) ∧ Sat w0 (SpaceP s d S * (Disk d D * (RSp r D.cells.length v fs * (FrP fs * F)))) w' := by
  have hcnt := hg.fils.ok.count
  have hml := hm.len
  have hl24 : fs.length ≤ 24 := by omega
  have hmost := hg.fils.most
  have HG := Lib.hid hg; have HM := Lib.hid hm; have HS := Lib.hid h
  have HFi : Hid (∀ W (G : SP), Sat w0 (SpaceP s d S * (Disk d D * G)) W → Calls Try.prog 32 #[.pointer (some ⟨s, 0, none⟩)] W fun e w' => ∃ A c, e = .returned (.slice A fs.length c) ∧ Sat w0 (Row 35 3 (.slice A fs.length c) fs.length ((fs.map fiR).flatMap fiI) * (SpaceP s d S * (Disk d D * G))) w') := fun W G hW => (files_sp hg hW).mono fun e w' ⟨u, h1, h2⟩ => by
    rw [hm.lies, lie_fi, ← fiR_lie, ← hml] at h2
    obtain ⟨A, c, rfl, _⟩ := h2.row_sl
    exact ⟨A, c, h1, h2⟩
  have HRf : Hid (∀ W (G : SP), Sat w0 (RSp r D.cells.length v fs * G) W → Calls Try.prog 77 #[.pointer (some ⟨r, 0, none⟩)] W fun e w' => ∃ A c, e = .returned (.slice A fs.length c) ∧ Sat w0 (Row 35 3 (.slice A fs.length c) fs.length ((fs.map fiR).flatMap fiI) * (RSp r D.cells.length v fs * G)) w') := fun W G hW => rfiles_any hW (by omega)
  have HSa : Hid (∀ (W : World) (A A' : Option Addr) (c c' : Nat), RdV W A ((fs.map fiR).flatMap fiI) → RdV W A' ((fs.map fiR).flatMap fiI) → Calls Try.prog 36 #[.slice A fs.length c, .slice A' fs.length c'] W fun e w' => e = .returned (.bool true) ∧ ∃ n, w' = W.drewN n) := fun W A A' c c' h1 h2 => by
    have h9 := rsame_any true A A' c c' (fs.map fiR) (fs.map fiR) W (by simp) h1 h2 (by rw [List.length_map]; omega) (by rw [List.length_map]; omega)
    rw [List.length_map] at h9
    exact h9
  obtain ⟨fr, hfr⟩ : ∃ x, x = freeN ((D.cells.length : Int) - 2) S.files := ⟨_, rfl⟩
  have HFr : Hid (∀ W (G : SP), Sat w0 (SpaceP s d S * (Disk d D * G)) W → Calls Try.prog 25 #[.pointer (some ⟨s, 0, none⟩)] W fun e w' => e = .returned (.int .i64 fr) ∧ W = w') := fun W G hW => by rw [hfr]; exact free_sp hg hW
  have HRr : Hid (∀ W (G : SP), Sat w0 (RSp r D.cells.length v fs * G) W → Calls Try.prog 78 #[.pointer (some ⟨r, 0, none⟩)] W fun e w' => e = .returned (.int .i64 fr) ∧ W = w') := fun W G hW => by
    rw [hfr, hm.free]
    exact rfree_any hW (by omega) (by omega) fun f hf => by
      obtain ⟨i, hi, rfl⟩ := List.mem_iff_getElem.1 hf
      obtain ⟨hj, _, _, e3, _⟩ := hm.at hi
      have := (hg.file (List.getElem_mem hj)).2.1
      omega
  clear hfr hg hm h hml hcnt
  go_enter Try.func43, Try.ntmps43
  have hff : (fr != fr) = false := by simp
  go_upto_region 3 with (first
    | (go_at_call 32; (with_reducible refine (HFi.out _ _ HS.out).mono ?_); rintro e w1 ⟨A1, c1, rfl, hs⟩; have HS1 := Lib.hid (hs.of (show _ = RSp r D.cells.length v fs * (Row 35 3 (.slice A1 fs.length c1) fs.length ((fs.map fiR).flatMap fiI) * (SpaceP s d S * (Disk d D * (FrP fs * F)))) by ac_rfl)); clear hs)
    | (go_at_call 77; (with_reducible refine (HRf.out _ _ HS1.out).mono ?_); rintro e w2 ⟨A2, c2, rfl, hs⟩; have HS2 := Lib.hid hs; clear hs)
    | (go_at_call 36; (with_reducible refine (HSa.out _ _ _ _ _ HS2.out.up3.row_rdvX HS2.out.row_rdvX).mono ?_); rintro e w3 ⟨rfl, hn⟩; have HS3 : Hid (Sat w0 (SpaceP s d S * (Disk d D * (RSp r D.cells.length v fs * (FrP fs * F)))) w3) := (by obtain ⟨n, rfl⟩ := hn; exact Sat.right (A := Row 35 3 (.slice A1 fs.length c1) fs.length ((fs.map fiR).flatMap fiI) * Row 35 3 (.slice A2 fs.length c2) fs.length ((fs.map fiR).flatMap fiI)) ((HS2.out.drewN n).of (by ac_rfl))); clear hn)
    | (go_at_call 25; (with_reducible refine (HFr.out _ _ HS3.out).mono ?_); rintro e wx ⟨rfl, rfl⟩)
    | (go_at_call 78; (with_reducible refine (HRr.out _ _ HS3.out.up3).mono ?_); rintro e wx ⟨rfl, rfl⟩))
  clear HS HS1 HS2 HFi HRf HSa HFr HRr hff
  obtain ⟨Av, cv, rfl, _⟩ := Sat.row_sl (h := (HS3.out.up3.of rsp_d).up2)
  go_wp2_with fail
  go_loopw [5] (fun iv wr => ∃ i : Nat, i ≤ fs.length ∧ iv = .int .i64 (i : Int) ∧ Hid (Sat w0 (SpaceP s d S * (Disk d D * (RSp r D.cells.length (.slice Av fs.length cv) fs * (FrP fs * F)))) wr)) (fun iv _ => fs.length - (intOf iv).toNat)
  case atStart => exact ⟨0, by omega, rfl, HS3.out⟩
  case round =>
    obtain ⟨i, hi, rfl, HW⟩ := hrel
    by_cases hlt : i < fs.length
    · have hli : (i : Int) < fs.length := by omega
      obtain ⟨g, rfl, _⟩ := Sat.row_at (h := (HW.out.up3.of rsp_d).up2) (by omega)
      obtain ⟨hj, e1, e2, e3, e4⟩ := HM.out.at hlt
      have hfile := HG.out.file (List.getElem_mem hj)
      have HFd : Hid (S.find (fs[i].num : Int) = some S.files[i]) := by unfold Hid; rw [e1]; exact find_is HG.out (List.getElem_mem hj)
      obtain ⟨Af, cf, hfv⟩ := Sat.fr_ok (h := HW.out.up4) fs[i] (List.getElem_mem hlt)
      have HFp : Hid (FrP fs = Row 39 1 fs[i].fv fs[i].fr.length (fs[i].fr.map slOf) * (RoL fs[i].fr * FrP (fs.eraseIdx i))) := by unfold Hid; rw [frp_at fs i hlt]; unfold FrR; ac_rfl
      have HC : Hid (∀ W G, Sat w0 (RSp r D.cells.length (.slice (some ⟨g, 0, none⟩) fs.length cv) fs * G) W → W.cell? ⟨r, 1, none⟩ = some (.slice (some ⟨g, 0, none⟩) fs.length cv) ∧ W.cell? ⟨g, i * 5, none⟩ = some (.int .i64 (fs[i].num : Int)) ∧ W.cell? ⟨g, i * 5 + 2, none⟩ = some (.int .i64 (fs[i].blocks : Int)) ∧ W.cell? ⟨g, i * 5 + 3, none⟩ = some (.slice Af fs[i].fr.length cf)) := fun W G hW => by
        obtain ⟨b, o, e, h0, h1, h2, h3, h4⟩ := rf_at hW.rsp_rd hlt
        injection e with e
        injection e with e1 e2
        subst e1; subst e2
        rw [Nat.zero_add] at h0 h2 h3
        rw [hfv] at h3
        exact ⟨(hW.of rsp_d).cell 1, h0, h2, h3⟩
      rw [hfv] at HFp
      have hfl : S.files[i].frames.length = fs[i].fr.length := by rw [← e4]; unfold txt; rw [List.length_map]
      have HRm : Hid (∀ W (G : SP), Sat w0 (SpaceP s d S * (Disk d D * G)) W → Calls Try.prog 41 #[.pointer (some ⟨s, 0, none⟩), .int .i64 (fs[i].num : Int)] W fun e w' => e = .returned (.tuple #[.int .i64 ((fs[i].blocks : Int) - (fs[i].fr.length : Int)), .int .i64 0]) ∧ Sat w0 (SpaceP s d S * (Disk d D * G)) w') := fun W G hW => by
        have h9 := room_sp HG.out hW HFd.out
        rw [hfl, ← e3] at h9
        exact h9
      have HFs : Hid (∀ W (G : SP), Sat w0 (SpaceP s d S * (Disk d D * G)) W → Calls Try.prog 30 #[.pointer (some ⟨s, 0, none⟩), .int .i64 (fs[i].num : Int)] W fun e w' => ∃ A1 c1 ts, e = .returned (.tuple #[.slice A1 fs[i].fr.length c1, .int .i64 0]) ∧ txt ts = txt fs[i].fr ∧ ts.length = fs[i].fr.length ∧ Sat w0 (Row 39 1 (.slice A1 fs[i].fr.length c1) fs[i].fr.length (ts.map slOf) * (RoL ts * (SpaceP s d S * (Disk d D * G)))) w') := fun W G hW => (frames_sp HG.out hW HFd.out).mono fun e w' ⟨u, ts, h1, h2, h3⟩ => by
        have h4 : txt ts = txt fs[i].fr := h2.trans e4.symm
        have h5 : ts.length = fs[i].fr.length := by have := congrArg List.length h4; simpa [txt] using this
        rw [h5] at h3
        obtain ⟨A, c, rfl, _⟩ := h3.row_sl
        exact ⟨A, c, ts, h1, h4, h5, h3⟩
      have hb6 : fs[i].blocks ≤ 65536 := by omega
      have hn6 : fs[i].fr.length ≤ 65536 := by omega
      obtain ⟨q0, q1, q2, q3⟩ := HC.out _ _ HW.out.up3
      clear e1 e2 e3 e4 hfile hj hfv hfl HFd
      obtain ⟨f, hfe⟩ : ∃ f, f = fs[i] := ⟨_, rfl⟩
      rw [← hfe] at HC HRm HFs HFp hb6 hn6 q1 q2 q3
      clear hfe
      obtain ⟨fn, hfn⟩ : ∃ k : Nat, k = f.fr.length := ⟨_, rfl⟩
      rw [← hfn] at HC HRm HFs HFp hn6 q3
      have HFn := Lib.hid hfn
      clear hfn
      go_upto_region 7 with (go_at_call 30; (with_reducible refine (HFs.out _ _ HW.out).mono ?_); rintro e w5 ⟨A5, c5, ts, rfl, ht1, ht2, hs⟩; have HT1 := Lib.hid ht1; have HT2 := Lib.hid ht2; have HS5 := Lib.hid (hs.of (show _ = SpaceP s d S * (Disk d D * (RSp r D.cells.length (.slice (some ⟨g, 0, none⟩) fs.length cv) fs * (FrP fs * (Row 39 1 (.slice A5 fn c5) fn (ts.map slOf) * (RoL ts * F))))) by ac_rfl)); clear hs ht1 ht2)
      clear q0 q1 q2 q3
      obtain ⟨q0, q1, q2, q3⟩ := HC.out _ _ HS5.out.up3
      go_upto_region 8 with (go_at_call 41; (with_reducible refine (HRm.out _ _ HS5.out).mono ?_); rintro e w6 ⟨rfl, hs⟩; have HS6 := Lib.hid hs; clear hs)
      have HLi : Hid (∀ W, Chg No w6 W → Calls Try.prog 53 #[.slice A5 fn c5, .slice Af fn cf] W fun e w' => e = .returned (.bool true) ∧ Chg No W w') := fun W hW => by
        have h1 := (HS6.out.new hW).of (show _ = Row 39 1 (.slice A5 fn c5) fn (ts.map slOf) * (RoL ts * (Row 39 1 (.slice Af fn cf) fn (f.fr.map slOf) * (RoL f.fr * (FrP (fs.eraseIdx i) * (SpaceP s d S * (Disk d D * (RSp r D.cells.length (.slice (some ⟨g, 0, none⟩) fs.length cv) fs * F))))))) by rw [HFp.out]; ac_rfl)
        have h8 := lists_same A5 Af c5 cf ts f.fr W ⟨h1.row_rdvX, fun x hx => h1.up2.rol hx⟩ ⟨h1.up3.row_rdvX, fun x hx => h1.up4.rol hx⟩ HT1.out (by rw [HT2.out]; omega)
        rw [HT2.out, ← HFn.out] at h8
        exact h8
      clear q0 q1 q2 q3
      have hwr : IntKind.i64.wrap ((f.blocks : Int) - (fn : Int)) = (f.blocks : Int) - (fn : Int) := by rw [IntKind.wrap_i64]; omega
      have hbn : (((f.blocks : Int) - (fn : Int)) != ((f.blocks : Int) - (fn : Int))) = false := by simp
      refine wp_region_held_drew (S := fun w' => w'.cell? ⟨r, 1, none⟩ = some (.slice (some ⟨g, 0, none⟩) fs.length cv) ∧ w'.cell? ⟨g, i * 5 + 2, none⟩ = some (.int .i64 (f.blocks : Int)) ∧ w'.cell? ⟨g, i * 5 + 3, none⟩ = some (.slice Af fn cf)) (by kernel_rfl) ⟨(HC.out _ _ HS6.out.drew.up3).1, (HC.out _ _ HS6.out.drew.up3).2.2.1, (HC.out _ _ HS6.out.drew.up3).2.2.2⟩ ?_
      intro hS0
      refine rgn_take (i := 0) (v := ?rv1) rfl (by kernel_rfl) (by kernel_rfl) (by kernel_rfl) (fun _ _ _ h => h) (by rfl) ?rh1 (by assumption) ?rr1
      case rh1 => (intro w hSw; (try dsimp only at hSw); go_simp; try with_reducible rfl)
      simp only [Act.put, List.setIfInBounds_toArray, List.set_cons_zero, List.set_cons_succ]
      refine rgn_call (i := 1) rfl (by kernel_rfl) (fun K hK => ?_)
      go_simp
      go_at_call 27; (with_reducible refine (num3_any _ _).mono ?_); rintro e wx ⟨rfl, rfl⟩
      refine hK.out _ _ hS0 (fun hS0 => ?_)
      clear hK K
      refine rgn_take (i := 2) (v := ?rv3) rfl (by kernel_rfl) (by kernel_rfl) (by kernel_rfl) (fun _ _ _ h => h) (by rfl) ?rh3 (by assumption) ?rr3
      case rh3 => (intro w hSw; (try dsimp only at hSw); go_simp; try with_reducible rfl)
      simp only [Act.put, List.setIfInBounds_toArray, List.set_cons_zero, List.set_cons_succ]
      refine rgn_take (i := 3) (v := ?rv4) rfl (by kernel_rfl) (by kernel_rfl) (by kernel_rfl) (fun _ _ _ h => h) (by rfl) ?rh4 (by assumption) ?rr4
      case rh4 => (intro w hSw; (try dsimp only at hSw); go_simp; try with_reducible rfl)
      simp only [Act.put, List.setIfInBounds_toArray, List.set_cons_zero, List.set_cons_succ]
      refine rgn_take (i := 4) (v := ?rv5) rfl (by kernel_rfl) (by kernel_rfl) (by kernel_rfl) (fun _ _ _ h => h) (by rfl) ?rh5 (by assumption) ?rr5
      case rh5 => (intro w hSw; (try dsimp only at hSw); go_simp; try with_reducible rfl)
      simp only [Act.put, List.setIfInBounds_toArray, List.set_cons_zero, List.set_cons_succ]
      refine rgn_call (i := 5) rfl (by kernel_rfl) (fun K hK => ?_)
      go_simp
      go_at_call 27; (with_reducible refine (num3_any _ _).mono ?_); rintro e wx ⟨rfl, rfl⟩
      refine hK.out _ _ hS0 (fun hS0 => ?_)
      clear hK K
      refine rgn_take (i := 6) (v := ?rv7) rfl (by kernel_rfl) (by kernel_rfl) (by kernel_rfl) (fun _ _ _ h => h) (by rfl) ?rh7 (by assumption) ?rr7
      case rh7 => (intro w hSw; (try dsimp only at hSw); go_simp; try with_reducible rfl)
      simp only [Act.put, List.setIfInBounds_toArray, List.set_cons_zero, List.set_cons_succ]
      refine rgn_take (i := 7) (v := ?rv8) rfl (by kernel_rfl) (by kernel_rfl) (by kernel_rfl) (fun _ _ _ h => h) (by rfl) ?rh8 (by assumption) ?rr8
      case rh8 => (intro w hSw; (try dsimp only at hSw); go_simp; try with_reducible rfl)
      simp only [Act.put, List.setIfInBounds_toArray, List.set_cons_zero, List.set_cons_succ]
      refine rgn_take (i := 8) (v := ?rv9) rfl (by kernel_rfl) (by kernel_rfl) (by kernel_rfl) (fun _ _ _ h => h) (by rfl) ?rh9 (by assumption) ?rr9
      case rh9 => (intro w hSw; (try dsimp only at hSw); go_simp; try with_reducible rfl)
      simp only [Act.put, List.setIfInBounds_toArray, List.set_cons_zero, List.set_cons_succ]
      refine rgn_take (i := 9) (v := ?rv10) rfl (by kernel_rfl) (by kernel_rfl) (by kernel_rfl) (fun _ _ _ h => h) (by rfl) ?rh10 (by assumption) ?rr10
      case rh10 => (intro w hSw; (try dsimp only at hSw); go_simp; try with_reducible rfl)
      simp only [Act.put, List.setIfInBounds_toArray, List.set_cons_zero, List.set_cons_succ]
      refine rgn_take (i := 10) (v := ?rv11) rfl (by kernel_rfl) (by kernel_rfl) (by kernel_rfl) (fun _ _ _ h => h) (by rfl) ?rh11 (by assumption) ?rr11
      case rh11 => (intro w hSw; (try dsimp only at hSw); go_simp; try with_reducible rfl)
      simp only [Act.put, List.setIfInBounds_toArray, List.set_cons_zero, List.set_cons_succ]
      refine rgn_take (i := 11) (v := ?rv12) rfl (by kernel_rfl) (by kernel_rfl) (by kernel_rfl) (fun _ _ _ h => h) (by rfl) ?rh12 (by assumption) ?rr12
      case rh12 => (intro w hSw; (try dsimp only at hSw); go_simp; try with_reducible rfl)
      simp only [Act.put, List.setIfInBounds_toArray, List.set_cons_zero, List.set_cons_succ]
      refine rgn_take (i := 12) (v := ?rv13) rfl (by kernel_rfl) (by kernel_rfl) (by kernel_rfl) (fun _ _ _ h => h) (by rfl) ?rh13 (by assumption) ?rr13
      case rh13 => (intro w hSw; (try dsimp only at hSw); go_simp; try with_reducible rfl)
      simp only [Act.put, List.setIfInBounds_toArray, List.set_cons_zero, List.set_cons_succ]
      refine rgn_take (i := 13) (v := ?rv14) rfl (by kernel_rfl) (by kernel_rfl) (by kernel_rfl) (fun _ _ _ h => h) (by rfl) ?rh14 (by assumption) ?rr14
      case rh14 => (intro w hSw; (try dsimp only at hSw); go_simp; try with_reducible rfl)
      simp only [Act.put, List.setIfInBounds_toArray, List.set_cons_zero, List.set_cons_succ]
      refine rgn_take (i := 14) (v := ?rv15) rfl (by kernel_rfl) (by kernel_rfl) (by kernel_rfl) (fun _ _ _ h => h) (by rfl) ?rh15 (by assumption) ?rr15
      case rh15 => (intro w hSw; (try dsimp only at hSw); go_simp; try with_reducible rfl)
      simp only [Act.put, List.setIfInBounds_toArray, List.set_cons_zero, List.set_cons_succ]
      refine rgn_take (i := 15) (v := ?rv16) rfl (by kernel_rfl) (by kernel_rfl) (by kernel_rfl) (fun _ _ _ h => h) (by rfl) ?rh16 (by assumption) ?rr16
      case rh16 => (intro w hSw; (try dsimp only at hSw); go_simp; try with_reducible rfl)
      simp only [Act.put, List.setIfInBounds_toArray, List.set_cons_zero, List.set_cons_succ]
      refine rgn_take (i := 16) (v := ?rv17) rfl (by kernel_rfl) (by kernel_rfl) (by kernel_rfl) (fun _ _ _ h => h) (by rfl) ?rh17 (by assumption) ?rr17
      case rh17 => (intro w hSw; (try dsimp only at hSw); go_simp; try with_reducible rfl)
      simp only [Act.put, List.setIfInBounds_toArray, List.set_cons_zero, List.set_cons_succ]
      refine rgn_take (i := 17) (v := ?rv18) rfl (by kernel_rfl) (by kernel_rfl) (by kernel_rfl) (fun _ _ _ h => h) (by rfl) ?rh18 (by assumption) ?rr18
      case rh18 => (intro w hSw; (try dsimp only at hSw); go_simp; try with_reducible rfl)
      simp only [Act.put, List.setIfInBounds_toArray, List.set_cons_zero, List.set_cons_succ]
      refine rgn_call (i := 18) rfl (by kernel_rfl) (fun K hK => ?_)
      go_simp
      go_at_call 53; (with_reducible refine (HLi.out _ ((Chg.refl No w6).drew)).mono ?_); rintro e w7 ⟨rfl, hk⟩; have HS7 := Lib.hid ((HS6.out.drew).new hk); clear hk
      refine hK.out _ _ ⟨(HC.out _ _ HS7.out.up3).1, (HC.out _ _ HS7.out.up3).2.2.1, (HC.out _ _ HS7.out.up3).2.2.2⟩ (fun hS0 => ?_)
      clear hK K
      refine rgn_take (i := 19) (v := ?rv20) rfl (by kernel_rfl) (by kernel_rfl) (by kernel_rfl) (fun _ _ _ h => h) (by rfl) ?rh20 (by assumption) ?rr20
      case rh20 => (intro w hSw; (try dsimp only at hSw); go_simp; try with_reducible rfl)
      simp only [Act.put, List.setIfInBounds_toArray, List.set_cons_zero, List.set_cons_succ]
      refine rgn_take (i := 20) (v := ?rv21) rfl (by kernel_rfl) (by kernel_rfl) (by kernel_rfl) (fun _ _ _ h => h) (by rfl) ?rh21 (by assumption) ?rr21
      case rh21 => (intro w hSw; (try dsimp only at hSw); go_simp; try with_reducible rfl)
      simp only [Act.put, List.setIfInBounds_toArray, List.set_cons_zero, List.set_cons_succ]
      refine rgn_take (i := 21) (v := ?rv22) rfl (by kernel_rfl) (by kernel_rfl) (by kernel_rfl) (fun _ _ _ h => h) (by rfl) ?rh22 (by assumption) ?rr22
      case rh22 => (intro w hSw; (try dsimp only at hSw); go_simp; try with_reducible rfl)
      simp only [Act.put, List.setIfInBounds_toArray, List.set_cons_zero, List.set_cons_succ]
      refine rgn_take (i := 22) (v := ?rv23) rfl (by kernel_rfl) (by kernel_rfl) (by kernel_rfl) (fun _ _ _ h => h) (by rfl) ?rh23 (by assumption) ?rr23
      case rh23 => (intro w hSw; (try dsimp only at hSw); go_simp; try with_reducible rfl)
      simp only [Act.put, List.setIfInBounds_toArray, List.set_cons_zero, List.set_cons_succ]
      refine rgn_take (i := 23) (v := ?rv24) rfl (by kernel_rfl) (by kernel_rfl) (by kernel_rfl) (fun _ _ _ h => h) (by rfl) ?rh24 (by assumption) ?rr24
      case rh24 => (intro w hSw; (try dsimp only at hSw); go_simp; try with_reducible rfl)
      simp only [Act.put, List.setIfInBounds_toArray, List.set_cons_zero, List.set_cons_succ]
      refine rgn_take (i := 24) (v := ?rv25) rfl (by kernel_rfl) (by kernel_rfl) (by kernel_rfl) (fun _ _ _ h => h) (by rfl) ?rh25 (by assumption) ?rr25
      case rh25 => (intro w hSw; (try dsimp only at hSw); go_simp; try with_reducible rfl)
      simp only [Act.put, List.setIfInBounds_toArray, List.set_cons_zero, List.set_cons_succ]
      refine rgn_take (i := 25) (v := ?rv26) rfl (by kernel_rfl) (by kernel_rfl) (by kernel_rfl) (fun _ _ _ h => h) (by rfl) ?rh26 (by assumption) ?rr26
      case rh26 => (intro w hSw; (try dsimp only at hSw); go_simp; try with_reducible rfl)
      simp only [Act.put, List.setIfInBounds_toArray, List.set_cons_zero, List.set_cons_succ]
      refine rgn_take (i := 26) (v := ?rv27) rfl (by kernel_rfl) (by kernel_rfl) (by kernel_rfl) (fun _ _ _ h => h) (by rfl) ?rh27 (by assumption) ?rr27
      case rh27 => (intro w hSw; (try dsimp only at hSw); go_simp; try with_reducible rfl)
      simp only [Act.put, List.setIfInBounds_toArray, List.set_cons_zero, List.set_cons_succ]
      refine rgn_take (i := 27) (v := ?rv28) rfl (by kernel_rfl) (by kernel_rfl) (by kernel_rfl) (fun _ _ _ h => h) (by rfl) ?rh28 (by assumption) ?rr28
      case rh28 => (intro w hSw; (try dsimp only at hSw); go_simp; try with_reducible rfl)
      simp only [Act.put, List.setIfInBounds_toArray, List.set_cons_zero, List.set_cons_succ]
      refine rgn_take (i := 28) (v := ?rv29) rfl (by kernel_rfl) (by kernel_rfl) (by kernel_rfl) (fun _ _ _ h => h) (by rfl) ?rh29 (by assumption) ?rr29
      case rh29 => (intro w hSw; (try dsimp only at hSw); go_simp; try with_reducible rfl)
      simp only [Act.put, List.setIfInBounds_toArray, List.set_cons_zero, List.set_cons_succ]
      refine rgn_take (i := 29) (v := ?rv30) rfl (by kernel_rfl) (by kernel_rfl) (by kernel_rfl) (fun _ _ _ h => h) (by rfl) ?rh30 (by assumption) ?rr30
      case rh30 => (intro w hSw; (try dsimp only at hSw); go_simp; try with_reducible rfl)
      simp only [Act.put, List.setIfInBounds_toArray, List.set_cons_zero, List.set_cons_succ]
      refine rgn_take (i := 30) (v := ?rv31) rfl (by kernel_rfl) (by kernel_rfl) (by kernel_rfl) (fun _ _ _ h => h) (by rfl) ?rh31 (by assumption) ?rr31
      case rh31 => (intro w hSw; (try dsimp only at hSw); go_simp; try with_reducible rfl)
      simp only [Act.put, List.setIfInBounds_toArray, List.set_cons_zero, List.set_cons_succ]
      refine rgn_take (i := 31) (v := ?rv32) rfl (by kernel_rfl) (by kernel_rfl) (by kernel_rfl) (fun _ _ _ h => h) (by rfl) ?rh32 (by assumption) ?rr32
      case rh32 => (intro w hSw; (try dsimp only at hSw); go_simp; try with_reducible rfl)
      simp only [Act.put, List.setIfInBounds_toArray, List.set_cons_zero, List.set_cons_succ]
      refine rgn_take (i := 32) (v := ?rv33) rfl (by kernel_rfl) (by kernel_rfl) (by kernel_rfl) (fun _ _ _ h => h) (by rfl) ?rh33 (by assumption) ?rr33
      case rh33 => (intro w hSw; (try dsimp only at hSw); go_simp; try with_reducible rfl)
      simp only [Act.put, List.setIfInBounds_toArray, List.set_cons_zero, List.set_cons_succ]
      refine rgn_take (i := 33) (v := ?rv34) rfl (by kernel_rfl) (by kernel_rfl) (by kernel_rfl) (fun _ _ _ h => h) (by rfl) ?rh34 (by assumption) ?rr34
      case rh34 => (intro w hSw; (try dsimp only at hSw); go_simp; try with_reducible rfl)
      simp only [Act.put, List.setIfInBounds_toArray, List.set_cons_zero, List.set_cons_succ]
      refine rgn_take (i := 34) (v := ?rv35) rfl (by kernel_rfl) (by kernel_rfl) (by kernel_rfl) (fun _ _ _ h => h) (by rfl) ?rh35 (by assumption) ?rr35
      case rh35 => (intro w hSw; (try dsimp only at hSw); go_simp; try with_reducible rfl)
      simp only [Act.put, List.setIfInBounds_toArray, List.set_cons_zero, List.set_cons_succ]
      refine rgn_take (i := 35) (v := ?rv36) rfl (by kernel_rfl) (by kernel_rfl) (by kernel_rfl) (fun _ _ _ h => h) (by rfl) ?rh36 (by assumption) ?rr36
      case rh36 => (intro w hSw; (try dsimp only at hSw); go_simp; try with_reducible rfl)
      simp only [Act.put, List.setIfInBounds_toArray, List.set_cons_zero, List.set_cons_succ]
      refine rgn_take (i := 36) (v := ?rv37) rfl (by kernel_rfl) (by kernel_rfl) (by kernel_rfl) (fun _ _ _ h => h) (by rfl) ?rh37 (by assumption) ?rr37
      case rh37 => (intro w hSw; (try dsimp only at hSw); go_simp; try with_reducible rfl)
      simp only [Act.put, List.setIfInBounds_toArray, List.set_cons_zero, List.set_cons_succ]
      refine rgn_take (i := 37) (v := ?rv38) rfl (by kernel_rfl) (by kernel_rfl) (by kernel_rfl) (fun _ _ _ h => h) (by rfl) ?rh38 (by assumption) ?rr38
      case rh38 => (intro w hSw; (try dsimp only at hSw); go_simp; try with_reducible rfl)
      simp only [Act.put, List.setIfInBounds_toArray, List.set_cons_zero, List.set_cons_succ]
      refine rgn_take (i := 38) (v := ?rv39) rfl (by kernel_rfl) (by kernel_rfl) (by kernel_rfl) (fun _ _ _ h => h) (by rfl) ?rh39 (by assumption) ?rr39
      case rh39 => (intro w hSw; (try dsimp only at hSw); go_simp; try with_reducible rfl)
      simp only [Act.put, List.setIfInBounds_toArray, List.set_cons_zero, List.set_cons_succ]
      refine rgn_take (i := 39) (v := ?rv40) rfl (by kernel_rfl) (by kernel_rfl) (by kernel_rfl) (fun _ _ _ h => h) (by rfl) ?rh40 (by assumption) ?rr40
      case rh40 => (intro w hSw; (try dsimp only at hSw); go_simp; try with_reducible rfl)
      simp only [Act.put, List.setIfInBounds_toArray, List.set_cons_zero, List.set_cons_succ]
      refine rgn_take (i := 40) (v := ?rv41) rfl (by kernel_rfl) (by kernel_rfl) (by kernel_rfl) (fun _ _ _ h => h) (by rfl) ?rh41 (by assumption) ?rr41
      case rh41 => (intro w hSw; (try dsimp only at hSw); go_simp; try with_reducible rfl)
      simp only [Act.put, List.setIfInBounds_toArray, List.set_cons_zero, List.set_cons_succ]
      refine rgn_take (i := 41) (v := ?rv42) rfl (by kernel_rfl) (by kernel_rfl) (by kernel_rfl) (fun _ _ _ h => h) (by rfl) ?rh42 (by assumption) ?rr42
      case rh42 => (intro w hSw; (try dsimp only at hSw); go_simp; try with_reducible rfl)
      simp only [Act.put, List.setIfInBounds_toArray, List.set_cons_zero, List.set_cons_succ]
      try simp only [hwr]
      refine rgn_take (i := 42) (v := ?rv44) rfl (by kernel_rfl) (by kernel_rfl) (by kernel_rfl) (fun _ _ _ h => h) (by rfl) ?rh44 (by assumption) ?rr44
      case rh44 => (intro w hSw; (try dsimp only at hSw); go_simp; try with_reducible rfl)
      simp only [Act.put, List.setIfInBounds_toArray, List.set_cons_zero, List.set_cons_succ]
      try simp only [hbn]
      refine rgn_take (i := 43) (v := ?rv46) rfl (by kernel_rfl) (by kernel_rfl) (by kernel_rfl) (fun _ _ _ h => h) (by rfl) ?rh46 (by assumption) ?rr46
      case rh46 => (intro w hSw; (try dsimp only at hSw); go_simp; try with_reducible rfl)
      simp only [Act.put, List.setIfInBounds_toArray, List.set_cons_zero, List.set_cons_succ]
      refine wpAnyH_done (by kernel_rfl) ?_ _
      go_wp2_with fail
      go_roundw
      · refine ⟨i + 1, by omega, by go_num, ?_⟩
        have h9 := HS7.out
        exact Sat.right (A := Row 39 1 (.slice A5 fn c5) fn (ts.map slOf) * RoL ts) (h9.of (by ac_rfl))
      · simp [intOf]; omega
    · have hli : ¬ (i : Int) < fs.length := by omega
      have p1 : wr.cell? ⟨r, 1, none⟩ = some (.slice Av fs.length cv) := (HW.out.up3.of rsp_d).cell 1
      go_wp2_with fail
      go_ret
      exact ⟨rfl, HW.out⟩
end
end Go.Proofs.Ytjmapbhgjhlefaa
