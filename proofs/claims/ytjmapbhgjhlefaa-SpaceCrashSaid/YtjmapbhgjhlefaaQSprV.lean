/- The statements' unsafe: what the document's space is behind a Switch that did not answer. -/
import Derived.Test.YtjmapbhgjhlefaaQSprU
namespace Go.Proofs.Ytjmapbhgjhlefaa
open Go.RowKit
set_option linter.unusedVariables false
set_option maxRecDepth 100000

/-- A document's space that may be read. -/
structure SpRd (W : World) (t N : Nat) (At : Option Addr) (ct : Nat) (ts : List Rf) : Prop where
  n : W.cell? ⟨t, 0, none⟩ = some (.int .i64 (N : Int))
  v : W.cell? ⟨t, 1, none⟩ = some (.slice At ts.length ct)
  rd : RdV W At (ts.flatMap rfV)
def safeOf (fs : List Rf) (f : Rf) : Nat := if findB fs (f.num : Int) = true then (match fs[fs.findIdx fun g => decide ((g.num : Int) = (f.num : Int))]? with | some g => if lie3 g = lie3 f then g.safe else f.safe | none => f.safe) else f.safe
def unsR (fs : List Rf) (f : Rf) : Rf := { f with safe := safeOf fs f }
section
variable {w0 w : World} {F G : SP} {t r N : Nat} {v : Value} {fs ts : List Rf}
theorem Sat.spRd {At : Option Addr} {ct : Nat} (h : Sat w0 (RSp t N (.slice At ts.length ct) ts * F) w) : SpRd w t N At ct ts := ⟨(h.of rsp_d).cell 0, (h.of rsp_d).cell 1, h.rsp_rd⟩
theorem safeOf_no {f : Rf} (h : findB fs (f.num : Int) = false) : safeOf fs f = f.safe := by unfold safeOf; rw [if_neg (by rw [h]; simp)]
theorem safeOf_yes {f : Rf} {k : Nat} (hk : k < fs.length) (h : findB fs (f.num : Int) = true) (hz : findZ fs (f.num : Int) = (k : Int)) : safeOf fs f = if lie3 fs[k] = lie3 f then fs[k].safe else f.safe := by
  unfold findZ at hz
  rw [if_pos h] at hz
  have h2 : (fs.findIdx fun g => decide ((g.num : Int) = (f.num : Int))) = k := by omega
  unfold safeOf
  rw [if_pos h, h2, List.getElem?_eq_getElem hk]
set_option maxHeartbeats 8000000 in
theorem unsafe_any (At : Option Addr) (ct : Nat) (h : Sat w0 (RSp r N v fs * G) w) (hl : fs.length ≤ 1000000) (htl : ts.length ≤ 1000) (ht : ∀ W, Sat w0 (RSp r N v fs * G) W → SpRd W t N At ct ts) (hfv : ∀ f ∈ ts, FvOk f) :
    Calls Try.prog 45 #[.pointer (some ⟨t, 0, none⟩), .pointer (some ⟨r, 0, none⟩)] w fun e w' => ∃ u v2, e = .returned (.pointer (some ⟨u, 0, none⟩)) ∧ Sat w0 (RSp u N v2 (ts.map (unsR fs)) * (RSp r N v fs * G)) w' := by
  obtain ⟨i0, hi0', hz0', hz1', hz2'⟩ := info_parts info_rf
  have hi0 := Lib.hid hi0'; have hz0 := Lib.hid hz0'; have hz1 := Lib.hid hz1'; have hz2 := Lib.hid hz2'
  have HS := Lib.hid h; have HT := Lib.hid ht; have HV := Lib.hid hfv
  obtain ⟨Av, cv, rfl, _⟩ := Sat.row_sl (h := (h.of rsp_d).up2)
  have p0 := (ht w h).n
  clear hi0' hz0' hz1' hz2' h ht hfv
  go_enter Try.func45, Try.ntmps45
  have h4 := HS.out.allocPt 65 #[.int .i64 (N : Int), .slice none 0 0]
  go_upto_region 2 with fail
  generalize hW : World.alloc w _ = w4
  have hs4 : Sat w0 (Pt w.heap.size 65 #[.int .i64 (N : Int), .slice none 0 0] * (RSp r N (.slice Av fs.length cv) fs * G)) w4 := by rw [← hW]; exact h4
  clear h4 hW HS p0
  revert hs4
  generalize w.heap.size = u
  intro hs4
  have HS4 : Hid (Sat w0 (RSp u N (.slice none 0 0) [] * (RSp r N (.slice Av fs.length cv) fs * G)) w4) := (hs4.row_nil 125 5).of (by
    have e : RSp u N (.slice none 0 0) [] = Pt u 65 #[.int .i64 (N : Int), .slice none 0 0] * Row 125 5 (.slice none 0 0) 0 [] := rfl
    rw [e]
    ac_rfl)
  clear hs4
  go_wp2_with fail
  go_loopw [6] (fun iv wr => ∃ (i : Nat) (v2 : Value), i ≤ ts.length ∧ iv = .int .i64 (i : Int) ∧ Hid (Sat w0 (RSp u N v2 ((ts.take i).map (unsR fs)) * (RSp r N (.slice Av fs.length cv) fs * G)) wr)) (fun iv _ => ts.length - (intOf iv).toNat)
  case atStart => exact ⟨0, _, by omega, rfl, HS4.out⟩
  case round =>
    obtain ⟨i, v2, hi, rfl, HD⟩ := hrel
    have htr := HT.out wr HD.out.right
    have p1 := htr.v
    by_cases hlt : i < ts.length
    · have hli : (i : Int) < ts.length := by omega
      obtain ⟨b, o, rfl, q0, q1, q2, q3, q4⟩ := rf_at htr.rd hlt
      have HTk : Hid ((ts.take (i + 1)).map (unsR fs) = (ts.take i).map (unsR fs) ++ [unsR fs ts[i]]) := by unfold Hid; rw [List.take_succ_eq_append_getElem hlt, List.map_append]; rfl
      obtain ⟨Af, cf, ef⟩ := HV.out ts[i] (List.getElem_mem hlt)
      clear htr
      generalize ts[i] = x at *
      obtain ⟨fl, hfl⟩ : ∃ k : Nat, k = x.fr.length := ⟨_, rfl⟩
      rw [ef, ← hfl] at q3
      have HEf : Hid (x.fv = .slice Af fl cf) := by unfold Hid; rw [hfl]; exact ef
      clear hfl ef
      obtain ⟨At2, ct2, rfl, _⟩ := Sat.row_sl (h := (HD.out.of rsp_d).up2)
      obtain ⟨ul, hul⟩ : ∃ ul, ul = (ts.take i).map (unsR fs) := ⟨_, rfl⟩
      have hull : ul.length ≤ 1000 := by rw [hul, List.length_map, List.length_take]; omega
      rw [← hul] at HD HTk
      clear hul
      have h5 := HD.out.allocPt 125 #[.int .i64 (x.num : Int), .int .i64 (x.first : Int), .int .i64 (x.blocks : Int), .slice Af fl cf, .int .i64 (x.safe : Int)]
      have HFi : Hid (∀ W (F : SP), Sat w0 (RSp r N (.slice Av fs.length cv) fs * F) W → Calls Try.prog 42 #[.pointer (some ⟨r, 0, none⟩), .int .i64 (x.num : Int)] W fun e w' => e = .returned (.int .i64 (findZ fs (x.num : Int))) ∧ w' = W) := fun W F hW => rfindZ_any _ hW hl
      go_upto_region 6 with fail
      generalize hW : World.alloc wr _ = w5
      have hs5 : Sat w0 (Pt wr.heap.size 125 #[.int .i64 (x.num : Int), .int .i64 (x.first : Int), .int .i64 (x.blocks : Int), .slice Af fl cf, .int .i64 (x.safe : Int)] * (RSp u N (.slice At2 ul.length ct2) ul * (RSp r N (.slice Av fs.length cv) fs * G))) w5 := by rw [← hW]; exact h5
      clear h5 hW HD q0 q1 q2 q3 q4 p1
      revert hs5
      generalize wr.heap.size = gx
      intro hs5
      have HS5 := Lib.hid (hs5.of (show _ = RSp r N (.slice Av fs.length cv) fs * (Row 125 5 (.slice At2 ul.length ct2) ul.length (ul.flatMap rfV) * (Pt gx 125 #[.int .i64 (x.num : Int), .int .i64 (x.first : Int), .int .i64 (x.blocks : Int), .slice Af fl cf, .int .i64 (x.safe : Int)] * (Pt u 65 #[.int .i64 (N : Int), .slice At2 ul.length ct2] * G))) from by
        have e : RSp u N (.slice At2 ul.length ct2) ul = Pt u 65 #[.int .i64 (N : Int), .slice At2 ul.length ct2] * Row 125 5 (.slice At2 ul.length ct2) ul.length (ul.flatMap rfV) := rfl
        rw [e]; ac_rfl))
      clear hs5
      have z0 := HS5.out.up3.cell 0
      simp only [List.getElem?_toArray, List.getElem?_cons_zero] at z0
      go_upto_region 7 with (go_at_call 42; (with_reducible refine (HFi.out _ _ HS5.out).mono ?_); rintro e wx ⟨rfl, rfl⟩)
      cases hf : findB fs (x.num : Int) with
      | false =>
        have hz : ¬ (0 : Int) ≤ findZ fs (x.num : Int) := by rw [findZ_no hf]; omega
        have HSf : Hid (unsR fs x = { x with safe := x.safe }) := by unfold Hid unsR; rw [safeOf_no hf]
        clear hf
        generalize findZ fs (x.num : Int) = fz at *
        refine wp_region_held_drew (S := fun w' => w'.cell? ⟨gx, 0, none⟩ = some (.int .i64 (x.num : Int))) (by kernel_rfl) (HS5.out.drew.up3.cell 0) ?_
        intro hS0
        refine rgn_take (i := 0) (v := ?rv1) rfl (by kernel_rfl) (by kernel_rfl) (by kernel_rfl) (fun _ _ _ h => h) (by rfl) ?rh1 (by assumption) ?rr1
        case rh1 => (intro w hSw; (try dsimp only at hSw); go_simp; try with_reducible rfl)
        simp only [Act.put, List.setIfInBounds_toArray, List.set_cons_zero, List.set_cons_succ]
        refine rgn_take (i := 1) (v := ?rv2) rfl (by kernel_rfl) (by kernel_rfl) (by kernel_rfl) (fun _ _ _ h => h) (by rfl) ?rh2 (by assumption) ?rr2
        case rh2 => (intro w hSw; (try dsimp only at hSw); go_simp; try with_reducible rfl)
        simp only [Act.put, List.setIfInBounds_toArray, List.set_cons_zero, List.set_cons_succ]
        refine rgn_take (i := 2) (v := ?rv3) rfl (by kernel_rfl) (by kernel_rfl) (by kernel_rfl) (fun _ _ _ h => h) (by rfl) ?rh3 (by assumption) ?rr3
        case rh3 => (intro w hSw; (try dsimp only at hSw); go_simp; try with_reducible rfl)
        simp only [Act.put, List.setIfInBounds_toArray, List.set_cons_zero, List.set_cons_succ]
        refine rgn_skip (i := 3) rfl (by kernel_rfl) (by kernel_rfl) (by kernel_rfl) (fun _ _ _ h => h) (by rfl) (by assumption) ?_
        simp only [Act.put, List.setIfInBounds_toArray, List.set_cons_zero, List.set_cons_succ]
        refine rgn_skip (i := 4) rfl (by kernel_rfl) (by kernel_rfl) (by kernel_rfl) (fun _ _ _ h => h) (by rfl) (by assumption) ?_
        simp only [Act.put, List.setIfInBounds_toArray, List.set_cons_zero, List.set_cons_succ]
        refine rgn_skip (i := 5) rfl (by kernel_rfl) (by kernel_rfl) (by kernel_rfl) (fun _ _ _ h => h) (by rfl) (by assumption) ?_
        simp only [Act.put, List.setIfInBounds_toArray, List.set_cons_zero, List.set_cons_succ]
        refine rgn_skip (i := 6) rfl (by kernel_rfl) (by kernel_rfl) (by kernel_rfl) (fun _ _ _ h => h) (by rfl) (by assumption) ?_
        simp only [Act.put, List.setIfInBounds_toArray, List.set_cons_zero, List.set_cons_succ]
        refine rgn_skip (i := 7) rfl (by kernel_rfl) (by kernel_rfl) (by kernel_rfl) (fun _ _ _ h => h) (by rfl) (by assumption) ?_
        simp only [Act.put, List.setIfInBounds_toArray, List.set_cons_zero, List.set_cons_succ]
        refine rgn_skip (i := 8) rfl (by kernel_rfl) (by kernel_rfl) (by kernel_rfl) (fun _ _ _ h => h) (by rfl) (by assumption) ?_
        simp only [Act.put, List.setIfInBounds_toArray, List.set_cons_zero, List.set_cons_succ]
        refine rgn_skip (i := 9) rfl (by kernel_rfl) (by kernel_rfl) (by kernel_rfl) (fun _ _ _ h => h) (by rfl) (by assumption) ?_
        simp only [Act.put, List.setIfInBounds_toArray, List.set_cons_zero, List.set_cons_succ]
        refine rgn_skip (i := 10) rfl (by kernel_rfl) (by kernel_rfl) (by kernel_rfl) (fun _ _ _ h => h) (by rfl) (by assumption) ?_
        simp only [Act.put, List.setIfInBounds_toArray, List.set_cons_zero, List.set_cons_succ]
        refine rgn_skip (i := 11) rfl (by kernel_rfl) (by kernel_rfl) (by kernel_rfl) (fun _ _ _ h => h) (by rfl) (by assumption) ?_
        simp only [Act.put, List.setIfInBounds_toArray, List.set_cons_zero, List.set_cons_succ]
        refine rgn_skip (i := 12) rfl (by kernel_rfl) (by kernel_rfl) (by kernel_rfl) (fun _ _ _ h => h) (by rfl) (by assumption) ?_
        simp only [Act.put, List.setIfInBounds_toArray, List.set_cons_zero, List.set_cons_succ]
        refine rgn_skip (i := 13) rfl (by kernel_rfl) (by kernel_rfl) (by kernel_rfl) (fun _ _ _ h => h) (by rfl) (by assumption) ?_
        simp only [Act.put, List.setIfInBounds_toArray, List.set_cons_zero, List.set_cons_succ]
        refine rgn_take (i := 14) (v := ?rv15) rfl (by kernel_rfl) (by kernel_rfl) (by kernel_rfl) (fun _ _ _ h => h) (by rfl) ?rh15 (by assumption) ?rr15
        case rh15 => (intro w hSw; (try dsimp only at hSw); go_simp; try with_reducible rfl)
        simp only [Act.put, List.setIfInBounds_toArray, List.set_cons_zero, List.set_cons_succ]
        refine wpAnyH_done (by kernel_rfl) ?_ _
        go_upto_region 9 with fail
        have hs7 := HS5.out.drew
        revert hs7
        generalize World.drew _ = w7
        intro hs7
        have HS7a := Lib.hid hs7
        clear hs7
        have HM := Lib.hid (HS7a.out.up2)
        have c0 := HM.out.up3.cell 0; have c1 := HM.out.up3.cell 1; have c2 := HM.out.up3.cell 2; have c3 := HM.out.up3.cell 3; have c4 := HM.out.up3.cell 4
        simp only [List.getElem?_toArray, List.getElem?_cons_zero, List.getElem?_cons_succ] at c0 c1 c2 c3 c4
        have d1 : w7.cell? ⟨u, 1, none⟩ = some (.slice At2 ul.length ct2) := HM.out.up4.cell 1
        have d2 : (w7.alloc (.cells #[.int .i64 (x.num : Int), .int .i64 (x.first : Int), .int .i64 (x.blocks : Int), .slice Af fl cf, .int .i64 (x.safe : Int)] 125)).cell? ⟨u, 1, none⟩ = some (.slice At2 ul.length ct2) := (HM.out.alloc' _).up4.cell 1
        go_region_law (refine step_appS rfl (.tmp 64) (.tmp 66) 63 rfl 125 i0 _ 5 56 Try.underlying63 hi0.out hz0.out hz1.out hz2.out rfl (by decide) (.slice At2 ul.length ct2) ul.length (ul.flatMap rfV) rfl w0 _ (by exact (HM.out.alloc' _).drew) (some ⟨w7.heap.size, 0, none⟩) 1 1 [.int .i64 (x.num : Int), .int .i64 (x.first : Int), .int .i64 (x.blocks : Int), .slice Af fl cf, .int .i64 (x.safe : Int)] rfl (by exact (lit_rdv _ _ _)) rfl (by intro u hu; simp at hu; rcases hu with rfl | rfl | rfl | rfl | rfl <;> rfl) (by unfold maxLen; omega) (by omega) ?_; intro A3 c8 w8 hs7; have f1 := hs7.up4.frozen 1; have p2 := hs7.up4.cell 1; have HS7 := Lib.hid hs7; clear hs7)
        all_goals
          have hs8 := HS7.out.up4.set 1 (.slice A3 (ul.length + 1) c8)
          have HS9 : Hid (Sat w0 (RSp u N (.slice A3 (ul.length + 1) c8) (ul ++ [unsR fs x]) * (RSp r N (.slice Av fs.length cv) fs * G)) (w8.setCell ⟨u, 1, none⟩ (.slice A3 (ul.length + 1) c8))) := by
            unfold Hid
            refine Sat.right (A := Pt gx 125 #[.int .i64 (x.num : Int), .int .i64 (x.first : Int), .int .i64 (x.blocks : Int), .slice Af fl cf, .int .i64 (x.safe : Int)]) (hs8.of ?_)
            have e : rfV (unsR fs x) = [.int .i64 (x.num : Int), .int .i64 (x.first : Int), .int .i64 (x.blocks : Int), .slice Af fl cf, .int .i64 (x.safe : Int)] := by rw [HSf.out]; show [Value.int .i64 (x.num : Int), .int .i64 (x.first : Int), .int .i64 (x.blocks : Int), x.fv, .int .i64 (x.safe : Int)] = _; rw [HEf.out]
            unfold RSp
            rw [List.flatMap_append, List.length_append, List.length_singleton, List.flatMap_cons, List.flatMap_nil, List.append_nil, e]
            show Pt u 65 #[.int .i64 (N : Int), .slice A3 (ul.length + 1) c8] * _ = _
            ac_rfl
          clear hs8 HS7 HM
          go_wp2_with fail
          go_roundw
          · exact ⟨i + 1, _, by omega, by go_num, by rw [HTk.out]; exact HS9.out⟩
          · simp [intOf]; omega
      | true =>
        obtain ⟨k, hk, hzk, hnk⟩ := findZ_is hf
        have hzz : (0 : Int) ≤ findZ fs (x.num : Int) := findZ_yes hf
        have HSy : Hid (safeOf fs x = if lie3 fs[k] = lie3 x then fs[k].safe else x.safe) := safeOf_yes hk hf hzk
        obtain ⟨g, rfl, _⟩ := Sat.row_at (h := (HS5.out.of rsp_d).up2) (by omega)
        have HC : Hid (∀ W F, Sat w0 (RSp r N (.slice (some ⟨g, 0, none⟩) fs.length cv) fs * F) W → W.cell? ⟨r, 1, none⟩ = some (.slice (some ⟨g, 0, none⟩) fs.length cv) ∧ W.cell? ⟨g, k * 5, none⟩ = some (.int .i64 (fs[k].num : Int)) ∧ W.cell? ⟨g, k * 5 + 1, none⟩ = some (.int .i64 (fs[k].first : Int)) ∧ W.cell? ⟨g, k * 5 + 2, none⟩ = some (.int .i64 (fs[k].blocks : Int)) ∧ W.cell? ⟨g, k * 5 + 4, none⟩ = some (.int .i64 (fs[k].safe : Int))) := fun W F hW => by
          obtain ⟨b, o, e, h0, h1, h2, h3, h4⟩ := rf_at hW.rsp_rd hk
          injection e with e
          injection e with e1 e2
          subst e1; subst e2
          rw [Nat.zero_add] at h0 h1 h2 h4
          exact ⟨(hW.of rsp_d).cell 1, h0, h1, h2, h4⟩
        have hkl : (k : Int) < fs.length := by omega
        rw [hzk]
        clear hzk hf hzz HFi
        generalize fs[k] = y at *
        have hnk2 : y.num = x.num := by omega
        rw [hnk2] at HC
        by_cases he : y.first = x.first ∧ y.blocks = x.blocks
        · have HSf : Hid (unsR fs x = { x with safe := y.safe }) := by unfold Hid unsR; rw [HSy.out, if_pos (by unfold lie3; rw [hnk2, he.1, he.2])]
          rw [he.1, he.2] at HC
          clear he hnk hnk2 HSy
          refine wp_region_held_drew (S := fun w' => w'.cell? ⟨r, 1, none⟩ = some (.slice (some ⟨g, 0, none⟩) fs.length cv) ∧ w'.cell? ⟨g, k * 5, none⟩ = some (.int .i64 (x.num : Int)) ∧ w'.cell? ⟨g, k * 5 + 1, none⟩ = some (.int .i64 (x.first : Int)) ∧ w'.cell? ⟨g, k * 5 + 2, none⟩ = some (.int .i64 (x.blocks : Int)) ∧ w'.cell? ⟨gx, 0, none⟩ = some (.int .i64 (x.num : Int)) ∧ w'.cell? ⟨gx, 1, none⟩ = some (.int .i64 (x.first : Int)) ∧ w'.cell? ⟨gx, 2, none⟩ = some (.int .i64 (x.blocks : Int))) (by kernel_rfl) ⟨(HC.out _ _ HS5.out.drew).1, (HC.out _ _ HS5.out.drew).2.1, (HC.out _ _ HS5.out.drew).2.2.1, (HC.out _ _ HS5.out.drew).2.2.2.1, HS5.out.drew.up3.cell 0, HS5.out.drew.up3.cell 1, HS5.out.drew.up3.cell 2⟩ ?_
          intro hS0
          refine rgn_take (i := 0) (v := ?rv16) rfl (by kernel_rfl) (by kernel_rfl) (by kernel_rfl) (fun _ _ _ h => h) (by rfl) ?rh16 (by assumption) ?rr16
          case rh16 => (intro w hSw; (try dsimp only at hSw); go_simp; try with_reducible rfl)
          simp only [Act.put, List.setIfInBounds_toArray, List.set_cons_zero, List.set_cons_succ]
          refine rgn_take (i := 1) (v := ?rv17) rfl (by kernel_rfl) (by kernel_rfl) (by kernel_rfl) (fun _ _ _ h => h) (by rfl) ?rh17 (by assumption) ?rr17
          case rh17 => (intro w hSw; (try dsimp only at hSw); go_simp; try with_reducible rfl)
          simp only [Act.put, List.setIfInBounds_toArray, List.set_cons_zero, List.set_cons_succ]
          refine rgn_take (i := 2) (v := ?rv18) rfl (by kernel_rfl) (by kernel_rfl) (by kernel_rfl) (fun _ _ _ h => h) (by rfl) ?rh18 (by assumption) ?rr18
          case rh18 => (intro w hSw; (try dsimp only at hSw); go_simp; try with_reducible rfl)
          simp only [Act.put, List.setIfInBounds_toArray, List.set_cons_zero, List.set_cons_succ]
          refine rgn_take (i := 3) (v := ?rv19) rfl (by kernel_rfl) (by kernel_rfl) (by kernel_rfl) (fun _ _ _ h => h) (by rfl) ?rh19 (by assumption) ?rr19
          case rh19 => (intro w hSw; (try dsimp only at hSw); go_simp; try with_reducible rfl)
          simp only [Act.put, List.setIfInBounds_toArray, List.set_cons_zero, List.set_cons_succ]
          refine rgn_take (i := 4) (v := ?rv20) rfl (by kernel_rfl) (by kernel_rfl) (by kernel_rfl) (fun _ _ _ h => h) (by rfl) ?rh20 (by assumption) ?rr20
          case rh20 => (intro w hSw; (try dsimp only at hSw); go_simp; try with_reducible rfl)
          simp only [Act.put, List.setIfInBounds_toArray, List.set_cons_zero, List.set_cons_succ]
          refine rgn_take (i := 5) (v := ?rv21) rfl (by kernel_rfl) (by kernel_rfl) (by kernel_rfl) (fun _ _ _ h => h) (by rfl) ?rh21 (by assumption) ?rr21
          case rh21 => (intro w hSw; (try dsimp only at hSw); go_simp; try with_reducible rfl)
          simp only [Act.put, List.setIfInBounds_toArray, List.set_cons_zero, List.set_cons_succ]
          refine rgn_take (i := 6) (v := ?rv22) rfl (by kernel_rfl) (by kernel_rfl) (by kernel_rfl) (fun _ _ _ h => h) (by rfl) ?rh22 (by assumption) ?rr22
          case rh22 => (intro w hSw; (try dsimp only at hSw); go_simp; try with_reducible rfl)
          simp only [Act.put, List.setIfInBounds_toArray, List.set_cons_zero, List.set_cons_succ]
          refine rgn_take (i := 7) (v := ?rv23) rfl (by kernel_rfl) (by kernel_rfl) (by kernel_rfl) (fun _ _ _ h => h) (by rfl) ?rh23 (by assumption) ?rr23
          case rh23 => (intro w hSw; (try dsimp only at hSw); go_simp; try with_reducible rfl)
          simp only [Act.put, List.setIfInBounds_toArray, List.set_cons_zero, List.set_cons_succ]
          refine rgn_take (i := 8) (v := ?rv24) rfl (by kernel_rfl) (by kernel_rfl) (by kernel_rfl) (fun _ _ _ h => h) (by rfl) ?rh24 (by assumption) ?rr24
          case rh24 => (intro w hSw; (try dsimp only at hSw); go_simp; try with_reducible rfl)
          simp only [Act.put, List.setIfInBounds_toArray, List.set_cons_zero, List.set_cons_succ]
          refine rgn_take (i := 9) (v := ?rv25) rfl (by kernel_rfl) (by kernel_rfl) (by kernel_rfl) (fun _ _ _ h => h) (by rfl) ?rh25 (by assumption) ?rr25
          case rh25 => (intro w hSw; (try dsimp only at hSw); go_simp; try with_reducible rfl)
          simp only [Act.put, List.setIfInBounds_toArray, List.set_cons_zero, List.set_cons_succ]
          refine rgn_take (i := 10) (v := ?rv26) rfl (by kernel_rfl) (by kernel_rfl) (by kernel_rfl) (fun _ _ _ h => h) (by rfl) ?rh26 (by assumption) ?rr26
          case rh26 => (intro w hSw; (try dsimp only at hSw); go_simp; try with_reducible rfl)
          simp only [Act.put, List.setIfInBounds_toArray, List.set_cons_zero, List.set_cons_succ]
          refine rgn_take (i := 11) (v := ?rv27) rfl (by kernel_rfl) (by kernel_rfl) (by kernel_rfl) (fun _ _ _ h => h) (by rfl) ?rh27 (by assumption) ?rr27
          case rh27 => (intro w hSw; (try dsimp only at hSw); go_simp; try with_reducible rfl)
          simp only [Act.put, List.setIfInBounds_toArray, List.set_cons_zero, List.set_cons_succ]
          refine rgn_take (i := 12) (v := ?rv28) rfl (by kernel_rfl) (by kernel_rfl) (by kernel_rfl) (fun _ _ _ h => h) (by rfl) ?rh28 (by assumption) ?rr28
          case rh28 => (intro w hSw; (try dsimp only at hSw); go_simp; try with_reducible rfl)
          simp only [Act.put, List.setIfInBounds_toArray, List.set_cons_zero, List.set_cons_succ]
          refine rgn_take (i := 13) (v := ?rv29) rfl (by kernel_rfl) (by kernel_rfl) (by kernel_rfl) (fun _ _ _ h => h) (by rfl) ?rh29 (by assumption) ?rr29
          case rh29 => (intro w hSw; (try dsimp only at hSw); go_simp; try with_reducible rfl)
          simp only [Act.put, List.setIfInBounds_toArray, List.set_cons_zero, List.set_cons_succ]
          refine rgn_take (i := 14) (v := ?rv30) rfl (by kernel_rfl) (by kernel_rfl) (by kernel_rfl) (fun _ _ _ h => h) (by rfl) ?rh30 (by assumption) ?rr30
          case rh30 => (intro w hSw; (try dsimp only at hSw); go_simp; try with_reducible rfl)
          simp only [Act.put, List.setIfInBounds_toArray, List.set_cons_zero, List.set_cons_succ]
          refine wpAnyH_done (by kernel_rfl) ?_ _
          have y4 := (HC.out _ _ HS5.out.drew).2.2.2.2
          have y5 := HS5.out.drew.up3.frozen 4
          have y6 := HS5.out.drew.up3.cell 4
          simp only [List.getElem?_toArray, List.getElem?_cons_zero, List.getElem?_cons_succ] at y6
          have y7 := HS5.out.drew.up3.cell 0
          go_upto_region 9 with fail
          have hs7 := (HS5.out.up3.set 4 (.int .i64 (y.safe : Int))).drew
          revert hs7
          generalize World.drew (World.setCell _ _ _) = w7
          intro hs7
          have HS7a : Hid (Sat w0 (RSp r N (.slice (some ⟨g, 0, none⟩) fs.length cv) fs * (Row 125 5 (.slice At2 ul.length ct2) ul.length (ul.flatMap rfV) * (Pt gx 125 #[.int .i64 (x.num : Int), .int .i64 (x.first : Int), .int .i64 (x.blocks : Int), .slice Af fl cf, .int .i64 (y.safe : Int)] * (Pt u 65 #[.int .i64 (N : Int), .slice At2 ul.length ct2] * G)))) w7) := hs7.dn3
          clear hs7 y4 y5 y6 y7
          have HM := Lib.hid (HS7a.out.up2)
          have c0 := HM.out.up3.cell 0; have c1 := HM.out.up3.cell 1; have c2 := HM.out.up3.cell 2; have c3 := HM.out.up3.cell 3; have c4 := HM.out.up3.cell 4
          simp only [List.getElem?_toArray, List.getElem?_cons_zero, List.getElem?_cons_succ] at c0 c1 c2 c3 c4
          have d1 : w7.cell? ⟨u, 1, none⟩ = some (.slice At2 ul.length ct2) := HM.out.up4.cell 1
          have d2 : (w7.alloc (.cells #[.int .i64 (x.num : Int), .int .i64 (x.first : Int), .int .i64 (x.blocks : Int), .slice Af fl cf, .int .i64 (y.safe : Int)] 125)).cell? ⟨u, 1, none⟩ = some (.slice At2 ul.length ct2) := (HM.out.alloc' _).up4.cell 1
          go_region_law (refine step_appS rfl (.tmp 64) (.tmp 66) 63 rfl 125 i0 _ 5 56 Try.underlying63 hi0.out hz0.out hz1.out hz2.out rfl (by decide) (.slice At2 ul.length ct2) ul.length (ul.flatMap rfV) rfl w0 _ (by exact (HM.out.alloc' _).drew) (some ⟨w7.heap.size, 0, none⟩) 1 1 [.int .i64 (x.num : Int), .int .i64 (x.first : Int), .int .i64 (x.blocks : Int), .slice Af fl cf, .int .i64 (y.safe : Int)] rfl (by exact (lit_rdv _ _ _)) rfl (by intro u hu; simp at hu; rcases hu with rfl | rfl | rfl | rfl | rfl <;> rfl) (by unfold maxLen; omega) (by omega) ?_; intro A3 c8 w8 hs7; have f1 := hs7.up4.frozen 1; have p2 := hs7.up4.cell 1; have HS7 := Lib.hid hs7; clear hs7)
          all_goals
            have hs8 := HS7.out.up4.set 1 (.slice A3 (ul.length + 1) c8)
            have HS9 : Hid (Sat w0 (RSp u N (.slice A3 (ul.length + 1) c8) (ul ++ [unsR fs x]) * (RSp r N (.slice (some ⟨g, 0, none⟩) fs.length cv) fs * G)) (w8.setCell ⟨u, 1, none⟩ (.slice A3 (ul.length + 1) c8))) := by
              unfold Hid
              refine Sat.right (A := Pt gx 125 #[.int .i64 (x.num : Int), .int .i64 (x.first : Int), .int .i64 (x.blocks : Int), .slice Af fl cf, .int .i64 (y.safe : Int)]) (hs8.of ?_)
              have e : rfV (unsR fs x) = [.int .i64 (x.num : Int), .int .i64 (x.first : Int), .int .i64 (x.blocks : Int), .slice Af fl cf, .int .i64 (y.safe : Int)] := by rw [HSf.out]; show [Value.int .i64 (x.num : Int), .int .i64 (x.first : Int), .int .i64 (x.blocks : Int), x.fv, .int .i64 (y.safe : Int)] = _; rw [HEf.out]
              unfold RSp
              rw [List.flatMap_append, List.length_append, List.length_singleton, List.flatMap_cons, List.flatMap_nil, List.append_nil, e]
              show Pt u 65 #[.int .i64 (N : Int), .slice A3 (ul.length + 1) c8] * _ = _
              ac_rfl
            clear hs8 HS7 HM
            go_wp2_with fail
            go_roundw
            · exact ⟨i + 1, _, by omega, by go_num, by rw [HTk.out]; exact HS9.out⟩
            · simp [intOf]; omega
        · have HSf : Hid (unsR fs x = { x with safe := x.safe }) := by unfold Hid unsR; rw [HSy.out, if_neg (fun h => he (by unfold lie3 at h; injection h with _ h; injection h with h1 h2; exact ⟨h1, h2⟩))]
          have hd : y.first ≠ x.first ∨ (y.first = x.first ∧ y.blocks ≠ x.blocks) := by
            by_cases h1 : y.first = x.first
            · exact .inr ⟨h1, fun h2 => he ⟨h1, h2⟩⟩
            · exact .inl h1
          clear he hnk hnk2 HSy
          rcases hd with h1 | ⟨h1, h2⟩
          · have h1' : ¬ (y.first : Int) = (x.first : Int) := by omega
            refine wp_region_held_drew (S := fun w' => w'.cell? ⟨r, 1, none⟩ = some (.slice (some ⟨g, 0, none⟩) fs.length cv) ∧ w'.cell? ⟨g, k * 5, none⟩ = some (.int .i64 (x.num : Int)) ∧ w'.cell? ⟨g, k * 5 + 1, none⟩ = some (.int .i64 (y.first : Int)) ∧ w'.cell? ⟨g, k * 5 + 2, none⟩ = some (.int .i64 (y.blocks : Int)) ∧ w'.cell? ⟨gx, 0, none⟩ = some (.int .i64 (x.num : Int)) ∧ w'.cell? ⟨gx, 1, none⟩ = some (.int .i64 (x.first : Int)) ∧ w'.cell? ⟨gx, 2, none⟩ = some (.int .i64 (x.blocks : Int))) (by kernel_rfl) ⟨(HC.out _ _ HS5.out.drew).1, (HC.out _ _ HS5.out.drew).2.1, (HC.out _ _ HS5.out.drew).2.2.1, (HC.out _ _ HS5.out.drew).2.2.2.1, HS5.out.drew.up3.cell 0, HS5.out.drew.up3.cell 1, HS5.out.drew.up3.cell 2⟩ ?_
            intro hS0
            refine rgn_take (i := 0) (v := ?rv31) rfl (by kernel_rfl) (by kernel_rfl) (by kernel_rfl) (fun _ _ _ h => h) (by rfl) ?rh31 (by assumption) ?rr31
            case rh31 => (intro w hSw; (try dsimp only at hSw); go_simp; try with_reducible rfl)
            simp only [Act.put, List.setIfInBounds_toArray, List.set_cons_zero, List.set_cons_succ]
            refine rgn_take (i := 1) (v := ?rv32) rfl (by kernel_rfl) (by kernel_rfl) (by kernel_rfl) (fun _ _ _ h => h) (by rfl) ?rh32 (by assumption) ?rr32
            case rh32 => (intro w hSw; (try dsimp only at hSw); go_simp; try with_reducible rfl)
            simp only [Act.put, List.setIfInBounds_toArray, List.set_cons_zero, List.set_cons_succ]
            refine rgn_take (i := 2) (v := ?rv33) rfl (by kernel_rfl) (by kernel_rfl) (by kernel_rfl) (fun _ _ _ h => h) (by rfl) ?rh33 (by assumption) ?rr33
            case rh33 => (intro w hSw; (try dsimp only at hSw); go_simp; try with_reducible rfl)
            simp only [Act.put, List.setIfInBounds_toArray, List.set_cons_zero, List.set_cons_succ]
            refine rgn_take (i := 3) (v := ?rv34) rfl (by kernel_rfl) (by kernel_rfl) (by kernel_rfl) (fun _ _ _ h => h) (by rfl) ?rh34 (by assumption) ?rr34
            case rh34 => (intro w hSw; (try dsimp only at hSw); go_simp; try with_reducible rfl)
            simp only [Act.put, List.setIfInBounds_toArray, List.set_cons_zero, List.set_cons_succ]
            refine rgn_take (i := 4) (v := ?rv35) rfl (by kernel_rfl) (by kernel_rfl) (by kernel_rfl) (fun _ _ _ h => h) (by rfl) ?rh35 (by assumption) ?rr35
            case rh35 => (intro w hSw; (try dsimp only at hSw); go_simp; try with_reducible rfl)
            simp only [Act.put, List.setIfInBounds_toArray, List.set_cons_zero, List.set_cons_succ]
            refine rgn_take (i := 5) (v := ?rv36) rfl (by kernel_rfl) (by kernel_rfl) (by kernel_rfl) (fun _ _ _ h => h) (by rfl) ?rh36 (by assumption) ?rr36
            case rh36 => (intro w hSw; (try dsimp only at hSw); go_simp; try with_reducible rfl)
            simp only [Act.put, List.setIfInBounds_toArray, List.set_cons_zero, List.set_cons_succ]
            refine rgn_take (i := 6) (v := ?rv37) rfl (by kernel_rfl) (by kernel_rfl) (by kernel_rfl) (fun _ _ _ h => h) (by rfl) ?rh37 (by assumption) ?rr37
            case rh37 => (intro w hSw; (try dsimp only at hSw); go_simp; try with_reducible rfl)
            simp only [Act.put, List.setIfInBounds_toArray, List.set_cons_zero, List.set_cons_succ]
            refine rgn_take (i := 7) (v := ?rv38) rfl (by kernel_rfl) (by kernel_rfl) (by kernel_rfl) (fun _ _ _ h => h) (by rfl) ?rh38 (by assumption) ?rr38
            case rh38 => (intro w hSw; (try dsimp only at hSw); go_simp; try with_reducible rfl)
            simp only [Act.put, List.setIfInBounds_toArray, List.set_cons_zero, List.set_cons_succ]
            refine rgn_take (i := 8) (v := ?rv39) rfl (by kernel_rfl) (by kernel_rfl) (by kernel_rfl) (fun _ _ _ h => h) (by rfl) ?rh39 (by assumption) ?rr39
            case rh39 => (intro w hSw; (try dsimp only at hSw); go_simp; try with_reducible rfl)
            simp only [Act.put, List.setIfInBounds_toArray, List.set_cons_zero, List.set_cons_succ]
            refine rgn_take (i := 9) (v := ?rv40) rfl (by kernel_rfl) (by kernel_rfl) (by kernel_rfl) (fun _ _ _ h => h) (by rfl) ?rh40 (by assumption) ?rr40
            case rh40 => (intro w hSw; (try dsimp only at hSw); go_simp; try with_reducible rfl)
            simp only [Act.put, List.setIfInBounds_toArray, List.set_cons_zero, List.set_cons_succ]
            refine rgn_take (i := 10) (v := ?rv41) rfl (by kernel_rfl) (by kernel_rfl) (by kernel_rfl) (fun _ _ _ h => h) (by rfl) ?rh41 (by assumption) ?rr41
            case rh41 => (intro w hSw; (try dsimp only at hSw); go_simp; try with_reducible rfl)
            simp only [Act.put, List.setIfInBounds_toArray, List.set_cons_zero, List.set_cons_succ]
            refine rgn_take (i := 11) (v := ?rv42) rfl (by kernel_rfl) (by kernel_rfl) (by kernel_rfl) (fun _ _ _ h => h) (by rfl) ?rh42 (by assumption) ?rr42
            case rh42 => (intro w hSw; (try dsimp only at hSw); go_simp; try with_reducible rfl)
            simp only [Act.put, List.setIfInBounds_toArray, List.set_cons_zero, List.set_cons_succ]
            refine rgn_take (i := 12) (v := ?rv43) rfl (by kernel_rfl) (by kernel_rfl) (by kernel_rfl) (fun _ _ _ h => h) (by rfl) ?rh43 (by assumption) ?rr43
            case rh43 => (intro w hSw; (try dsimp only at hSw); go_simp; try with_reducible rfl)
            simp only [Act.put, List.setIfInBounds_toArray, List.set_cons_zero, List.set_cons_succ]
            refine rgn_take (i := 13) (v := ?rv44) rfl (by kernel_rfl) (by kernel_rfl) (by kernel_rfl) (fun _ _ _ h => h) (by rfl) ?rh44 (by assumption) ?rr44
            case rh44 => (intro w hSw; (try dsimp only at hSw); go_simp; try with_reducible rfl)
            simp only [Act.put, List.setIfInBounds_toArray, List.set_cons_zero, List.set_cons_succ]
            refine rgn_take (i := 14) (v := ?rv45) rfl (by kernel_rfl) (by kernel_rfl) (by kernel_rfl) (fun _ _ _ h => h) (by rfl) ?rh45 (by assumption) ?rr45
            case rh45 => (intro w hSw; (try dsimp only at hSw); go_simp; try with_reducible rfl)
            simp only [Act.put, List.setIfInBounds_toArray, List.set_cons_zero, List.set_cons_succ]
            refine wpAnyH_done (by kernel_rfl) ?_ _
            go_upto_region 9 with fail
            have hs7 := HS5.out.drew
            revert hs7
            generalize World.drew _ = w7
            intro hs7
            have HS7a := Lib.hid hs7
            clear hs7
            have HM := Lib.hid (HS7a.out.up2)
            have c0 := HM.out.up3.cell 0; have c1 := HM.out.up3.cell 1; have c2 := HM.out.up3.cell 2; have c3 := HM.out.up3.cell 3; have c4 := HM.out.up3.cell 4
            simp only [List.getElem?_toArray, List.getElem?_cons_zero, List.getElem?_cons_succ] at c0 c1 c2 c3 c4
            have d1 : w7.cell? ⟨u, 1, none⟩ = some (.slice At2 ul.length ct2) := HM.out.up4.cell 1
            have d2 : (w7.alloc (.cells #[.int .i64 (x.num : Int), .int .i64 (x.first : Int), .int .i64 (x.blocks : Int), .slice Af fl cf, .int .i64 (x.safe : Int)] 125)).cell? ⟨u, 1, none⟩ = some (.slice At2 ul.length ct2) := (HM.out.alloc' _).up4.cell 1
            go_region_law (refine step_appS rfl (.tmp 64) (.tmp 66) 63 rfl 125 i0 _ 5 56 Try.underlying63 hi0.out hz0.out hz1.out hz2.out rfl (by decide) (.slice At2 ul.length ct2) ul.length (ul.flatMap rfV) rfl w0 _ (by exact (HM.out.alloc' _).drew) (some ⟨w7.heap.size, 0, none⟩) 1 1 [.int .i64 (x.num : Int), .int .i64 (x.first : Int), .int .i64 (x.blocks : Int), .slice Af fl cf, .int .i64 (x.safe : Int)] rfl (by exact (lit_rdv _ _ _)) rfl (by intro u hu; simp at hu; rcases hu with rfl | rfl | rfl | rfl | rfl <;> rfl) (by unfold maxLen; omega) (by omega) ?_; intro A3 c8 w8 hs7; have f1 := hs7.up4.frozen 1; have p2 := hs7.up4.cell 1; have HS7 := Lib.hid hs7; clear hs7)
            all_goals
              have hs8 := HS7.out.up4.set 1 (.slice A3 (ul.length + 1) c8)
              have HS9 : Hid (Sat w0 (RSp u N (.slice A3 (ul.length + 1) c8) (ul ++ [unsR fs x]) * (RSp r N (.slice (some ⟨g, 0, none⟩) fs.length cv) fs * G)) (w8.setCell ⟨u, 1, none⟩ (.slice A3 (ul.length + 1) c8))) := by
                unfold Hid
                refine Sat.right (A := Pt gx 125 #[.int .i64 (x.num : Int), .int .i64 (x.first : Int), .int .i64 (x.blocks : Int), .slice Af fl cf, .int .i64 (x.safe : Int)]) (hs8.of ?_)
                have e : rfV (unsR fs x) = [.int .i64 (x.num : Int), .int .i64 (x.first : Int), .int .i64 (x.blocks : Int), .slice Af fl cf, .int .i64 (x.safe : Int)] := by rw [HSf.out]; show [Value.int .i64 (x.num : Int), .int .i64 (x.first : Int), .int .i64 (x.blocks : Int), x.fv, .int .i64 (x.safe : Int)] = _; rw [HEf.out]
                unfold RSp
                rw [List.flatMap_append, List.length_append, List.length_singleton, List.flatMap_cons, List.flatMap_nil, List.append_nil, e]
                show Pt u 65 #[.int .i64 (N : Int), .slice A3 (ul.length + 1) c8] * _ = _
                ac_rfl
              clear hs8 HS7 HM
              go_wp2_with fail
              go_roundw
              · exact ⟨i + 1, _, by omega, by go_num, by rw [HTk.out]; exact HS9.out⟩
              · simp [intOf]; omega
          · rw [h1] at HC
            have h2' : ¬ (y.blocks : Int) = (x.blocks : Int) := by omega
            clear h1
            refine wp_region_held_drew (S := fun w' => w'.cell? ⟨r, 1, none⟩ = some (.slice (some ⟨g, 0, none⟩) fs.length cv) ∧ w'.cell? ⟨g, k * 5, none⟩ = some (.int .i64 (x.num : Int)) ∧ w'.cell? ⟨g, k * 5 + 1, none⟩ = some (.int .i64 (x.first : Int)) ∧ w'.cell? ⟨g, k * 5 + 2, none⟩ = some (.int .i64 (y.blocks : Int)) ∧ w'.cell? ⟨gx, 0, none⟩ = some (.int .i64 (x.num : Int)) ∧ w'.cell? ⟨gx, 1, none⟩ = some (.int .i64 (x.first : Int)) ∧ w'.cell? ⟨gx, 2, none⟩ = some (.int .i64 (x.blocks : Int))) (by kernel_rfl) ⟨(HC.out _ _ HS5.out.drew).1, (HC.out _ _ HS5.out.drew).2.1, (HC.out _ _ HS5.out.drew).2.2.1, (HC.out _ _ HS5.out.drew).2.2.2.1, HS5.out.drew.up3.cell 0, HS5.out.drew.up3.cell 1, HS5.out.drew.up3.cell 2⟩ ?_
            intro hS0
            refine rgn_take (i := 0) (v := ?rv46) rfl (by kernel_rfl) (by kernel_rfl) (by kernel_rfl) (fun _ _ _ h => h) (by rfl) ?rh46 (by assumption) ?rr46
            case rh46 => (intro w hSw; (try dsimp only at hSw); go_simp; try with_reducible rfl)
            simp only [Act.put, List.setIfInBounds_toArray, List.set_cons_zero, List.set_cons_succ]
            refine rgn_take (i := 1) (v := ?rv47) rfl (by kernel_rfl) (by kernel_rfl) (by kernel_rfl) (fun _ _ _ h => h) (by rfl) ?rh47 (by assumption) ?rr47
            case rh47 => (intro w hSw; (try dsimp only at hSw); go_simp; try with_reducible rfl)
            simp only [Act.put, List.setIfInBounds_toArray, List.set_cons_zero, List.set_cons_succ]
            refine rgn_take (i := 2) (v := ?rv48) rfl (by kernel_rfl) (by kernel_rfl) (by kernel_rfl) (fun _ _ _ h => h) (by rfl) ?rh48 (by assumption) ?rr48
            case rh48 => (intro w hSw; (try dsimp only at hSw); go_simp; try with_reducible rfl)
            simp only [Act.put, List.setIfInBounds_toArray, List.set_cons_zero, List.set_cons_succ]
            refine rgn_take (i := 3) (v := ?rv49) rfl (by kernel_rfl) (by kernel_rfl) (by kernel_rfl) (fun _ _ _ h => h) (by rfl) ?rh49 (by assumption) ?rr49
            case rh49 => (intro w hSw; (try dsimp only at hSw); go_simp; try with_reducible rfl)
            simp only [Act.put, List.setIfInBounds_toArray, List.set_cons_zero, List.set_cons_succ]
            refine rgn_take (i := 4) (v := ?rv50) rfl (by kernel_rfl) (by kernel_rfl) (by kernel_rfl) (fun _ _ _ h => h) (by rfl) ?rh50 (by assumption) ?rr50
            case rh50 => (intro w hSw; (try dsimp only at hSw); go_simp; try with_reducible rfl)
            simp only [Act.put, List.setIfInBounds_toArray, List.set_cons_zero, List.set_cons_succ]
            refine rgn_take (i := 5) (v := ?rv51) rfl (by kernel_rfl) (by kernel_rfl) (by kernel_rfl) (fun _ _ _ h => h) (by rfl) ?rh51 (by assumption) ?rr51
            case rh51 => (intro w hSw; (try dsimp only at hSw); go_simp; try with_reducible rfl)
            simp only [Act.put, List.setIfInBounds_toArray, List.set_cons_zero, List.set_cons_succ]
            refine rgn_take (i := 6) (v := ?rv52) rfl (by kernel_rfl) (by kernel_rfl) (by kernel_rfl) (fun _ _ _ h => h) (by rfl) ?rh52 (by assumption) ?rr52
            case rh52 => (intro w hSw; (try dsimp only at hSw); go_simp; try with_reducible rfl)
            simp only [Act.put, List.setIfInBounds_toArray, List.set_cons_zero, List.set_cons_succ]
            refine rgn_take (i := 7) (v := ?rv53) rfl (by kernel_rfl) (by kernel_rfl) (by kernel_rfl) (fun _ _ _ h => h) (by rfl) ?rh53 (by assumption) ?rr53
            case rh53 => (intro w hSw; (try dsimp only at hSw); go_simp; try with_reducible rfl)
            simp only [Act.put, List.setIfInBounds_toArray, List.set_cons_zero, List.set_cons_succ]
            refine rgn_take (i := 8) (v := ?rv54) rfl (by kernel_rfl) (by kernel_rfl) (by kernel_rfl) (fun _ _ _ h => h) (by rfl) ?rh54 (by assumption) ?rr54
            case rh54 => (intro w hSw; (try dsimp only at hSw); go_simp; try with_reducible rfl)
            simp only [Act.put, List.setIfInBounds_toArray, List.set_cons_zero, List.set_cons_succ]
            refine rgn_take (i := 9) (v := ?rv55) rfl (by kernel_rfl) (by kernel_rfl) (by kernel_rfl) (fun _ _ _ h => h) (by rfl) ?rh55 (by assumption) ?rr55
            case rh55 => (intro w hSw; (try dsimp only at hSw); go_simp; try with_reducible rfl)
            simp only [Act.put, List.setIfInBounds_toArray, List.set_cons_zero, List.set_cons_succ]
            refine rgn_take (i := 10) (v := ?rv56) rfl (by kernel_rfl) (by kernel_rfl) (by kernel_rfl) (fun _ _ _ h => h) (by rfl) ?rh56 (by assumption) ?rr56
            case rh56 => (intro w hSw; (try dsimp only at hSw); go_simp; try with_reducible rfl)
            simp only [Act.put, List.setIfInBounds_toArray, List.set_cons_zero, List.set_cons_succ]
            refine rgn_take (i := 11) (v := ?rv57) rfl (by kernel_rfl) (by kernel_rfl) (by kernel_rfl) (fun _ _ _ h => h) (by rfl) ?rh57 (by assumption) ?rr57
            case rh57 => (intro w hSw; (try dsimp only at hSw); go_simp; try with_reducible rfl)
            simp only [Act.put, List.setIfInBounds_toArray, List.set_cons_zero, List.set_cons_succ]
            refine rgn_take (i := 12) (v := ?rv58) rfl (by kernel_rfl) (by kernel_rfl) (by kernel_rfl) (fun _ _ _ h => h) (by rfl) ?rh58 (by assumption) ?rr58
            case rh58 => (intro w hSw; (try dsimp only at hSw); go_simp; try with_reducible rfl)
            simp only [Act.put, List.setIfInBounds_toArray, List.set_cons_zero, List.set_cons_succ]
            refine rgn_take (i := 13) (v := ?rv59) rfl (by kernel_rfl) (by kernel_rfl) (by kernel_rfl) (fun _ _ _ h => h) (by rfl) ?rh59 (by assumption) ?rr59
            case rh59 => (intro w hSw; (try dsimp only at hSw); go_simp; try with_reducible rfl)
            simp only [Act.put, List.setIfInBounds_toArray, List.set_cons_zero, List.set_cons_succ]
            refine rgn_take (i := 14) (v := ?rv60) rfl (by kernel_rfl) (by kernel_rfl) (by kernel_rfl) (fun _ _ _ h => h) (by rfl) ?rh60 (by assumption) ?rr60
            case rh60 => (intro w hSw; (try dsimp only at hSw); go_simp; try with_reducible rfl)
            simp only [Act.put, List.setIfInBounds_toArray, List.set_cons_zero, List.set_cons_succ]
            refine wpAnyH_done (by kernel_rfl) ?_ _
            go_upto_region 9 with fail
            have hs7 := HS5.out.drew
            revert hs7
            generalize World.drew _ = w7
            intro hs7
            have HS7a := Lib.hid hs7
            clear hs7
            have HM := Lib.hid (HS7a.out.up2)
            have c0 := HM.out.up3.cell 0; have c1 := HM.out.up3.cell 1; have c2 := HM.out.up3.cell 2; have c3 := HM.out.up3.cell 3; have c4 := HM.out.up3.cell 4
            simp only [List.getElem?_toArray, List.getElem?_cons_zero, List.getElem?_cons_succ] at c0 c1 c2 c3 c4
            have d1 : w7.cell? ⟨u, 1, none⟩ = some (.slice At2 ul.length ct2) := HM.out.up4.cell 1
            have d2 : (w7.alloc (.cells #[.int .i64 (x.num : Int), .int .i64 (x.first : Int), .int .i64 (x.blocks : Int), .slice Af fl cf, .int .i64 (x.safe : Int)] 125)).cell? ⟨u, 1, none⟩ = some (.slice At2 ul.length ct2) := (HM.out.alloc' _).up4.cell 1
            go_region_law (refine step_appS rfl (.tmp 64) (.tmp 66) 63 rfl 125 i0 _ 5 56 Try.underlying63 hi0.out hz0.out hz1.out hz2.out rfl (by decide) (.slice At2 ul.length ct2) ul.length (ul.flatMap rfV) rfl w0 _ (by exact (HM.out.alloc' _).drew) (some ⟨w7.heap.size, 0, none⟩) 1 1 [.int .i64 (x.num : Int), .int .i64 (x.first : Int), .int .i64 (x.blocks : Int), .slice Af fl cf, .int .i64 (x.safe : Int)] rfl (by exact (lit_rdv _ _ _)) rfl (by intro u hu; simp at hu; rcases hu with rfl | rfl | rfl | rfl | rfl <;> rfl) (by unfold maxLen; omega) (by omega) ?_; intro A3 c8 w8 hs7; have f1 := hs7.up4.frozen 1; have p2 := hs7.up4.cell 1; have HS7 := Lib.hid hs7; clear hs7)
            all_goals
              have hs8 := HS7.out.up4.set 1 (.slice A3 (ul.length + 1) c8)
              have HS9 : Hid (Sat w0 (RSp u N (.slice A3 (ul.length + 1) c8) (ul ++ [unsR fs x]) * (RSp r N (.slice (some ⟨g, 0, none⟩) fs.length cv) fs * G)) (w8.setCell ⟨u, 1, none⟩ (.slice A3 (ul.length + 1) c8))) := by
                unfold Hid
                refine Sat.right (A := Pt gx 125 #[.int .i64 (x.num : Int), .int .i64 (x.first : Int), .int .i64 (x.blocks : Int), .slice Af fl cf, .int .i64 (x.safe : Int)]) (hs8.of ?_)
                have e : rfV (unsR fs x) = [.int .i64 (x.num : Int), .int .i64 (x.first : Int), .int .i64 (x.blocks : Int), .slice Af fl cf, .int .i64 (x.safe : Int)] := by rw [HSf.out]; show [Value.int .i64 (x.num : Int), .int .i64 (x.first : Int), .int .i64 (x.blocks : Int), x.fv, .int .i64 (x.safe : Int)] = _; rw [HEf.out]
                unfold RSp
                rw [List.flatMap_append, List.length_append, List.length_singleton, List.flatMap_cons, List.flatMap_nil, List.append_nil, e]
                show Pt u 65 #[.int .i64 (N : Int), .slice A3 (ul.length + 1) c8] * _ = _
                ac_rfl
              clear hs8 HS7 HM
              go_wp2_with fail
              go_roundw
              · exact ⟨i + 1, _, by omega, by go_num, by rw [HTk.out]; exact HS9.out⟩
              · simp [intOf]; omega
    · have hli : ¬ (i : Int) < ts.length := by omega
      have h9 := HD.out
      rw [List.take_of_length_le (by omega)] at h9
      have H9 := Lib.hid h9
      clear h9
      go_wp2_with fail
      go_ret
      exact ⟨u, rfl, v2, H9.out⟩
end
end Go.Proofs.Ytjmapbhgjhlefaa
