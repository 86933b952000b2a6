/- The document's space in memory: Sync, Files, Free, Same. -/
import Derived.Test.YtjmapbhgjhlefaaQSpr5
namespace Go.Proofs.Ytjmapbhgjhlefaa
open Go.RowKit
set_option linter.unusedVariables false
set_option maxRecDepth 100000

def syR (f : Rf) : Rf := { f with safe := f.fr.length }
def fiR (f : Rf) : Fi := ⟨f.num, f.first, f.blocks⟩
theorem fi_app (a b : List Fi) : (a ++ b).flatMap fiI = a.flatMap fiI ++ b.flatMap fiI := List.flatMap_append
section
variable {w0 w : World} {F : SP} {r N : Nat} {v : Value} {fs : List Rf}
set_option maxHeartbeats 4000000 in
theorem rsync_any (h : Sat w0 (RSp r N v fs * F) w) (hl : fs.length ≤ 1000000) (hv : ∀ f ∈ fs, FvOk f) :
    Calls Try.prog 40 #[.pointer (some ⟨r, 0, none⟩)] w fun e w' => e = .returned (.tuple #[]) ∧ Sat w0 (RSp r N v (fs.map syR) * F) w' := by
  have HS := Lib.hid h; have HV := Lib.hid hv
  obtain ⟨Av, cv, rfl, _⟩ := Sat.row_sl (h := (h.of rsp_d).up2)
  clear h hv
  go_enter Try.func40, Try.ntmps40
  go_wp2_with fail
  go_loopw [2] (fun iv wr => ∃ i : Nat, i ≤ fs.length ∧ iv = .int .i64 (i : Int) ∧ Hid (Sat w0 (RSp r N (.slice Av fs.length cv) ((fs.take i).map syR ++ fs.drop i) * F) wr)) (fun iv _ => fs.length - (intOf iv).toNat)
  case atStart => exact ⟨0, by omega, rfl, by unfold Hid; simpa using HS.out⟩
  case round =>
    obtain ⟨i, hi, rfl, HW⟩ := hrel
    have hll : ((fs.take i).map syR ++ fs.drop i).length = fs.length := by rw [List.length_append, List.length_map, List.length_take, List.length_drop]; omega
    have p1 : wr.cell? ⟨r, 1, none⟩ = some (.slice Av fs.length cv) := (HW.out.of rsp_d).cell 1
    by_cases hlt : i < fs.length
    · have hli : (i : Int) < fs.length := by omega
      have hg := Sat.row_at (h := (HW.out.of (rsp_d.trans (by rw [hll]))).up2) (by omega)
      obtain ⟨g, rfl, _⟩ := hg
      have hgi : ((fs.take i).map syR ++ fs.drop i)[i]'(by omega) = fs[i] := by
        rw [List.getElem_append_right (by rw [List.length_map, List.length_take]; omega)]
        simp only [List.length_map, List.length_take, List.getElem_drop]
        congr 1
        omega
      obtain ⟨Af, cf, hfv⟩ := HV.out fs[i] (List.getElem_mem hlt)
      have HC : Hid (∀ W, Sat w0 (RSp r N (.slice (some ⟨g, 0, none⟩) fs.length cv) ((fs.take i).map syR ++ fs.drop i) * F) W → W.cell? ⟨r, 1, none⟩ = some (.slice (some ⟨g, 0, none⟩) fs.length cv) ∧ W.cell? ⟨g, i * 5 + 3, none⟩ = some (.slice Af fs[i].fr.length cf) ∧ W.cell? ⟨g, i * 5 + 4, none⟩ = some (.int .i64 (fs[i].safe : Int)) ∧ W.frozen? ⟨g, i * 5 + 4, none⟩ = false) := fun W hW => by
        obtain ⟨b, o, e, h0, h1, h2, h3, h4⟩ := rf_at hW.rsp_rd (show i < ((fs.take i).map syR ++ fs.drop i).length by omega)
        injection e with e
        injection e with e1 e2
        subst e1; subst e2
        rw [Nat.zero_add, hgi] at h3 h4
        rw [hfv] at h3
        exact ⟨(hW.of rsp_d).cell 1, h3, h4, (hW.of (rsp_d.trans (by rw [hll]))).up2.row_free _⟩
      have HSt : Hid ((((fs.take i).map syR ++ fs.drop i).flatMap rfV).set (i * 5 + 4) (.int .i64 (fs[i].fr.length : Int)) = ((fs.take (i + 1)).map syR ++ fs.drop (i + 1)).flatMap rfV) := by
        unfold Hid
        rw [rf_set (g := syR fs[i]) (by omega) (by omega) (by rw [hgi]; rfl)]
        congr 1
        rw [List.take_succ_eq_append_getElem hlt, List.map_append, List.drop_eq_getElem_cons hlt, List.set_append_right _ _ (by rw [List.length_map, List.length_take]; omega)]
        simp only [List.length_map, List.length_take, Nat.min_eq_left hi, Nat.sub_self, List.set_cons_zero, List.map_cons, List.map_nil, List.append_assoc, List.cons_append, List.nil_append]
      have HLn : Hid (((fs.take (i + 1)).map syR ++ fs.drop (i + 1)).length = fs.length) := by unfold Hid; rw [List.length_append, List.length_map, List.length_take, List.length_drop]; omega
      have HLl := Lib.hid hll
      clear hgi hfv hll
      generalize fs[i].fr.length = fl at *
      generalize fs[i].safe = sv at *
      go_upto_region 3 with fail
      refine rgnz_start (z := 16) (S := fun w' => w'.cell? ⟨r, 1, none⟩ = some (.slice (some ⟨g, 0, none⟩) fs.length cv) ∧ w'.cell? ⟨g, i * 5 + 3, none⟩ = some (.slice Af fl cf)) (by kernel_rfl) ⟨(HC.out _ HW.out.drew).1, (HC.out _ HW.out.drew).2.1⟩ ?_
      intro hS0
      have y1 := (HC.out _ HW.out.drew).2.2.1
      have y2 := (HC.out _ HW.out.drew).2.2.2
      refine rgnz_take (i := 0) (v := ?rv3) rfl (by kernel_rfl) (by kernel_rfl) (by kernel_rfl) (by kernel_rfl) (fun _ _ _ h => h) (by rfl) ?rh3 (by assumption) ?rr3
      case rh3 => (intro w hSw; (try dsimp only at hSw); go_simp; try with_reducible rfl)
      simp only [Act.put, List.setIfInBounds_toArray, List.set_cons_zero, List.set_cons_succ]
      refine rgnz_take (i := 1) (v := ?rv4) rfl (by kernel_rfl) (by kernel_rfl) (by kernel_rfl) (by kernel_rfl) (fun _ _ _ h => h) (by rfl) ?rh4 (by assumption) ?rr4
      case rh4 => (intro w hSw; (try dsimp only at hSw); go_simp; try with_reducible rfl)
      simp only [Act.put, List.setIfInBounds_toArray, List.set_cons_zero, List.set_cons_succ]
      refine rgnz_take (i := 2) (v := ?rv5) rfl (by kernel_rfl) (by kernel_rfl) (by kernel_rfl) (by kernel_rfl) (fun _ _ _ h => h) (by rfl) ?rh5 (by assumption) ?rr5
      case rh5 => (intro w hSw; (try dsimp only at hSw); go_simp; try with_reducible rfl)
      simp only [Act.put, List.setIfInBounds_toArray, List.set_cons_zero, List.set_cons_succ]
      refine rgnz_take (i := 3) (v := ?rv6) rfl (by kernel_rfl) (by kernel_rfl) (by kernel_rfl) (by kernel_rfl) (fun _ _ _ h => h) (by rfl) ?rh6 (by assumption) ?rr6
      case rh6 => (intro w hSw; (try dsimp only at hSw); go_simp; try with_reducible rfl)
      simp only [Act.put, List.setIfInBounds_toArray, List.set_cons_zero, List.set_cons_succ]
      refine rgnz_take (i := 4) (v := ?rv7) rfl (by kernel_rfl) (by kernel_rfl) (by kernel_rfl) (by kernel_rfl) (fun _ _ _ h => h) (by rfl) ?rh7 (by assumption) ?rr7
      case rh7 => (intro w hSw; (try dsimp only at hSw); go_simp; try with_reducible rfl)
      simp only [Act.put, List.setIfInBounds_toArray, List.set_cons_zero, List.set_cons_succ]
      refine rgnz_take (i := 5) (v := ?rv8) rfl (by kernel_rfl) (by kernel_rfl) (by kernel_rfl) (by kernel_rfl) (fun _ _ _ h => h) (by rfl) ?rh8 (by assumption) ?rr8
      case rh8 => (intro w hSw; (try dsimp only at hSw); go_simp; try with_reducible rfl)
      simp only [Act.put, List.setIfInBounds_toArray, List.set_cons_zero, List.set_cons_succ]
      refine rgnz_take (i := 6) (v := ?rv9) rfl (by kernel_rfl) (by kernel_rfl) (by kernel_rfl) (by kernel_rfl) (fun _ _ _ h => h) (by rfl) ?rh9 (by assumption) ?rr9
      case rh9 => (intro w hSw; (try dsimp only at hSw); go_simp; try with_reducible rfl)
      simp only [Act.put, List.setIfInBounds_toArray, List.set_cons_zero, List.set_cons_succ]
      refine rgnz_take (i := 7) (v := ?rv10) rfl (by kernel_rfl) (by kernel_rfl) (by kernel_rfl) (by kernel_rfl) (fun _ _ _ h => h) (by rfl) ?rh10 (by assumption) ?rr10
      case rh10 => (intro w hSw; (try dsimp only at hSw); go_simp; try with_reducible rfl)
      simp only [Act.put, List.setIfInBounds_toArray, List.set_cons_zero, List.set_cons_succ]
      refine rgnz_take (i := 8) (v := ?rv11) rfl (by kernel_rfl) (by kernel_rfl) (by kernel_rfl) (by kernel_rfl) (fun _ _ _ h => h) (by rfl) ?rh11 (by assumption) ?rr11
      case rh11 => (intro w hSw; (try dsimp only at hSw); go_simp; try with_reducible rfl)
      simp only [Act.put, List.setIfInBounds_toArray, List.set_cons_zero, List.set_cons_succ]
      refine rgnz_take (i := 9) (v := ?rv12) rfl (by kernel_rfl) (by kernel_rfl) (by kernel_rfl) (by kernel_rfl) (fun _ _ _ h => h) (by rfl) ?rh12 (by assumption) ?rr12
      case rh12 => (intro w hSw; (try dsimp only at hSw); go_simp; try with_reducible rfl)
      simp only [Act.put, List.setIfInBounds_toArray, List.set_cons_zero, List.set_cons_succ]
      refine rgnz_take (i := 10) (v := ?rv13) rfl (by kernel_rfl) (by kernel_rfl) (by kernel_rfl) (by kernel_rfl) (fun _ _ _ h => h) (by rfl) ?rh13 (by assumption) ?rr13
      case rh13 => (intro w hSw; (try dsimp only at hSw); go_simp; try with_reducible rfl)
      simp only [Act.put, List.setIfInBounds_toArray, List.set_cons_zero, List.set_cons_succ]
      refine rgnz_take (i := 11) (v := ?rv14) rfl (by kernel_rfl) (by kernel_rfl) (by kernel_rfl) (by kernel_rfl) (fun _ _ _ h => h) (by rfl) ?rh14 (by assumption) ?rr14
      case rh14 => (intro w hSw; (try dsimp only at hSw); go_simp; try with_reducible rfl)
      simp only [Act.put, List.setIfInBounds_toArray, List.set_cons_zero, List.set_cons_succ]
      refine rgnz_take (i := 12) (v := ?rv15) rfl (by kernel_rfl) (by kernel_rfl) (by kernel_rfl) (by kernel_rfl) (fun _ _ _ h => h) (by rfl) ?rh15 (by assumption) ?rr15
      case rh15 => (intro w hSw; (try dsimp only at hSw); go_simp; try with_reducible rfl)
      simp only [Act.put, List.setIfInBounds_toArray, List.set_cons_zero, List.set_cons_succ]
      refine rgnz_take (i := 13) (v := ?rv16) rfl (by kernel_rfl) (by kernel_rfl) (by kernel_rfl) (by kernel_rfl) (fun _ _ _ h => h) (by rfl) ?rh16 (by assumption) ?rr16
      case rh16 => (intro w hSw; (try dsimp only at hSw); go_simp; try with_reducible rfl)
      simp only [Act.put, List.setIfInBounds_toArray, List.set_cons_zero, List.set_cons_succ]
      refine rgnz_call (i := 14) rfl (by kernel_rfl) (fun K hK => ?_)
      go_simp
      refine hK.out _ _ ⟨(HC.out _ HW.out.drew).1, (HC.out _ HW.out.drew).2.1⟩ (fun hS0 => ?_)
      clear hK K
      refine rgnz_take (i := 15) (v := ?rv18) rfl (by kernel_rfl) (by kernel_rfl) (by kernel_rfl) (by kernel_rfl) (fun _ _ _ h => h) (by rfl) ?rh18 (by assumption) ?rr18
      case rh18 => (intro w hSw; (try dsimp only at hSw); go_simp; try with_reducible rfl)
      simp only [Act.put, List.setIfInBounds_toArray, List.set_cons_zero, List.set_cons_succ]
      refine rgnz_last rfl (by kernel_rfl) (by kernel_rfl) (fun K hK => ?_)
      go_simp
      refine hK.out _ _ ?_
      clear hK K

      have HS9 : Hid (Sat w0 (RSp r N (.slice (some ⟨g, 0, none⟩) fs.length cv) ((fs.take (i + 1)).map syR ++ fs.drop (i + 1)) * F) (wr.setCell ⟨g, i * 5 + 4, none⟩ (.int .i64 (fl : Int))).drew) := by
        unfold Hid
        have h9 := ((HW.out.of (rsp_d.trans (by rw [HLl.out]))).up2.row_setj (j := i * 5 + 4) (.int .i64 (fl : Int))).drew
        rw [HSt.out] at h9
        refine h9.of ?_
        unfold RSp
        rw [HLn.out]
        ac_rfl
      go_wp2_with fail
      go_roundw
      · refine ⟨i + 1, by omega, by go_num, ?_⟩
        exact HS9.out
      · simp [intOf]; omega
    · have hli : ¬ (i : Int) < fs.length := by omega
      go_wp2_with fail
      go_end0
      have h9 := HW.out
      rw [List.take_of_length_le (by omega), List.drop_of_length_le (by omega), List.append_nil] at h9
      exact ⟨rfl, h9⟩
theorem rfree_any (h : Sat w0 (RSp r N v fs * F) w) (hl : fs.length ≤ 1000000) (hN : N ≤ 1000000) (hb : ∀ f ∈ fs, f.blocks ≤ 1000000) :
    Calls Try.prog 78 #[.pointer (some ⟨r, 0, none⟩)] w fun e w' => e = .returned (.int .i64 (fs.foldl (fun (x : Int) (f : Rf) => x - (f.blocks : Int)) ((N : Int) - 2))) ∧ w = w' := by
  have HS := Lib.hid h; have HB := Lib.hid hb
  obtain ⟨Av, cv, rfl, _⟩ := Sat.row_sl (h := (h.of rsp_d).up2)
  have HR := Lib.hid h.rsp_rd
  have p1 : w.cell? ⟨r, 1, none⟩ = some (.slice Av fs.length cv) := (h.of rsp_d).cell 1
  have p0 : w.cell? ⟨r, 0, none⟩ = some (.int .i64 (N : Int)) := (h.of rsp_d).cell 0
  clear h hb
  go_enter Try.func78, Try.ntmps78
  go_wp2_with fail
  go_loop [3, 4] (fun nv iv => ∃ (i : Nat) (x : Int), i ≤ fs.length ∧ iv = .int .i64 (i : Int) ∧ nv = .int .i64 x ∧ -1000000 * (i : Int) - 2 ≤ x ∧ x ≤ 1000000 ∧ Hid (fs.foldl (fun (x : Int) (f : Rf) => x - (f.blocks : Int)) ((N : Int) - 2) = (fs.drop i).foldl (fun (x : Int) (f : Rf) => x - (f.blocks : Int)) x)) (fun _ iv => fs.length - (intOf iv).toNat)
  case atStart => exact ⟨0, (N : Int) - 2, by omega, rfl, rfl, by omega, by omega, by unfold Hid; rw [List.drop_zero]⟩
  case round =>
    obtain ⟨i, x, hi, rfl, rfl, hx1, hx2, HN⟩ := hrel
    by_cases hlt : i < fs.length
    · obtain ⟨b, o, rfl, _, _, q2, _⟩ := rf_at HR.out hlt
      have hli : (i : Int) < fs.length := by omega
      have hbi := HB.out fs[i] (List.getElem_mem hlt)
      have HN2 : Hid (fs.foldl (fun (x : Int) (f : Rf) => x - (f.blocks : Int)) ((N : Int) - 2) = (fs.drop (i + 1)).foldl (fun (x : Int) (f : Rf) => x - (f.blocks : Int)) (x - fs[i].blocks)) := by
        unfold Hid
        rw [HN.out, List.drop_eq_getElem_cons hlt]
        rfl
      generalize fs[i].blocks = bl at *
      go_wp2_with fail
      go_round
      case rel => exact ⟨i + 1, x - bl, by omega, by go_num, by go_num, by omega, by omega, HN2.out⟩
      case measure => simp [intOf]; omega
    · have hli : ¬ (i : Int) < fs.length := by omega
      have HN2 : Hid (fs.foldl (fun (x : Int) (f : Rf) => x - (f.blocks : Int)) ((N : Int) - 2) = x) := by
        unfold Hid
        rw [HN.out, List.drop_of_length_le (by omega)]
        rfl
      go_wp2_with fail
      go_ret
      exact ⟨by rw [HN2.out]; rfl, rfl⟩
set_option maxHeartbeats 2000000 in
theorem rfiles_any (h : Sat w0 (RSp r N v fs * F) w) (hl : fs.length ≤ 1000000) :
    Calls Try.prog 77 #[.pointer (some ⟨r, 0, none⟩)] w fun e w' => ∃ A c, e = .returned (.slice A fs.length c) ∧ Sat w0 (Row 35 3 (.slice A fs.length c) fs.length ((fs.map fiR).flatMap fiI) * (RSp r N v fs * F)) w' := by
  obtain ⟨i0, hi0', hz0', hz1', hz2'⟩ := info_parts fileT
  have hi0 := Lib.hid hi0'; have hz0 := Lib.hid hz0'; have hz1 := Lib.hid hz1'; have hz2 := Lib.hid hz2'
  have HS := Lib.hid h
  obtain ⟨Av, cv, rfl, _⟩ := Sat.row_sl (h := (h.of rsp_d).up2)
  clear h hi0' hz0' hz1' hz2'
  go_enter Try.func77, Try.ntmps77
  go_wp2_with fail
  go_loopw [3, 4] (fun ov iv wr => ∃ (i : Nat) (A : Option Addr) (c : Nat), i ≤ fs.length ∧ iv = .int .i64 (i : Int) ∧ ov = .slice A i c ∧ Hid (Sat w0 (Row 35 3 (.slice A i c) i (((fs.take i).map fiR).flatMap fiI) * (RSp r N (.slice Av fs.length cv) fs * F)) wr)) (fun _ iv _ => fs.length - (intOf iv).toNat)
  case atStart => exact ⟨0, none, 0, by omega, rfl, rfl, HS.out.row_nil _ 3⟩
  case round =>
    obtain ⟨i, A, c, hi, rfl, rfl, HW⟩ := hrel
    have p1 : wr.cell? ⟨r, 1, none⟩ = some (.slice Av fs.length cv) := (HW.out.right.of rsp_d).cell 1
    by_cases hlt : i < fs.length
    · have hli : (i : Int) < fs.length := by omega
      obtain ⟨b, o, rfl, q0, q1, q2, _⟩ := rf_at HW.out.right.rsp_rd hlt
      have HT : Hid (((fs.take (i + 1)).map fiR).flatMap fiI = ((fs.take i).map fiR).flatMap fiI ++ [.int .i64 (fs[i].num : Int), .int .i64 (fs[i].first : Int), .int .i64 (fs[i].blocks : Int)]) := by
        unfold Hid
        rw [List.take_succ_eq_append_getElem hlt, List.map_append, List.flatMap_append]
        rfl
      generalize fs[i] = x at *
      go_wp2_with (at_builtin; refine wpList_appS rfl (.tmp 14) (.tmp 23) 36 rfl 35 i0 _ 3 24 Try.underlying36 hi0.out hz0.out hz1.out hz2.out rfl (by decide) (.slice A i c) i (((fs.take i).map fiR).flatMap fiI) rfl w0 _ (by exact HW.out.alloc' _) (some ⟨wr.heap.size, 0, none⟩) 1 1 [.int .i64 (x.num : Int), .int .i64 (x.first : Int), .int .i64 (x.blocks : Int)] rfl (lit_rdv _ _ _) rfl (by intro u hu; simp at hu; rcases hu with rfl | rfl | rfl <;> rfl) (by unfold maxLen; omega) (by omega) ?_; intro A2 c2 w2 hs; have HS2 := Lib.hid hs; clear hs)
      go_roundw
      · exact ⟨i + 1, A2, c2, by omega, by go_num, rfl, by rw [HT.out]; exact HS2.out⟩
      · simp [intOf]; omega
    · have hli : ¬ (i : Int) < fs.length := by omega
      obtain rfl : i = fs.length := by omega
      have HW2 := HW.out
      rw [List.take_length] at HW2
      have HW3 := Lib.hid HW2
      clear HW HW2
      go_wp2_with fail
      go_ret
      exact ⟨A, c, rfl, HW3.out⟩
theorem rsame_any (b : Bool) (A B : Option Addr) (c d : Nat) (la lb : List Fi) (w : World) (hbo : b = true ↔ la = lb) (ha : RdV w A (la.flatMap fiI)) (hb : RdV w B (lb.flatMap fiI)) (hla : la.length ≤ 1000000) (hlb : lb.length ≤ 1000000) :
    Calls Try.prog 36 #[.slice A la.length c, .slice B lb.length d] w fun e w' => e = .returned (.bool b) ∧ ∃ n, w' = w.drewN n := by
  have HA := Lib.hid ha; have HB := Lib.hid hb; have HO := Lib.hid hbo
  clear ha hb hbo
  have HT0 : Hid (la = lb → b = true) := HO.out.2
  have HF0 : Hid (la ≠ lb → b = false) := fun h => by cases b with | false => rfl | true => exact absurd (HO.out.1 rfl) h
  go_enter Try.func36, Try.ntmps36
  by_cases hlen : la.length = lb.length
  · have hne : ((la.length : Int) != (lb.length : Int)) = false := by rw [hlen]; simp
    have HLn := Lib.hid hlen
    clear hlen
    go_wp2_with fail
    go_loopw [5] (fun iv wr => ∃ i n : Nat, i ≤ la.length ∧ iv = .int .i64 (i : Int) ∧ wr = w.drewN n ∧ Hid (la.take i = lb.take i)) (fun iv _ => la.length - (intOf iv).toNat)
    case atStart => exact ⟨0, 0, by omega, rfl, rfl, by unfold Hid; rw [List.take_zero, List.take_zero]⟩
    case round =>
      obtain ⟨i, n, hi, rfl, rfl, HT⟩ := hrel
      by_cases hlt : i < la.length
      · have hlt2 : i < lb.length := by have := HLn.out; omega
        have hli : (i : Int) < la.length := by omega
        have hli2 : (i : Int) < lb.length := by omega
        obtain ⟨b, o, rfl, q0, q1, q2⟩ := fi_get HA.out hlt
        obtain ⟨b', o', rfl, q0', q1', q2'⟩ := fi_get HB.out hlt2
        by_cases he : la[i] = lb[i]
        · have HT2 : Hid (la.take (i + 1) = lb.take (i + 1)) := by unfold Hid; rw [List.take_succ_eq_append_getElem hlt, List.take_succ_eq_append_getElem hlt2, HT.out, he]
          rw [he] at q0 q1 q2
          clear he
          generalize lb[i] = y at *
          go_wp2_with fail
          go_quiet (fail)
          go_wp2_with fail
          go_roundw
          · exact ⟨i + 1, _, by omega, by go_num, rfl, HT2.out⟩
          · simp [intOf]; omega
        · have HNe : Hid (la ≠ lb) := fun e => he (by subst e; rfl)
          have hd : la[i].num ≠ lb[i].num ∨ (la[i].num = lb[i].num ∧ la[i].first ≠ lb[i].first) ∨ (la[i].num = lb[i].num ∧ la[i].first = lb[i].first ∧ la[i].blocks ≠ lb[i].blocks) := by
            by_cases h0 : la[i].num = lb[i].num
            · by_cases h1 : la[i].first = lb[i].first
              · refine .inr (.inr ⟨h0, h1, fun h2 => he ?_⟩)
                cases hx : la[i]; cases hy : lb[i]
                rw [hx, hy] at h0 h1 h2
                simp only at h0 h1 h2
                rw [h0, h1, h2]
              · exact .inr (.inl ⟨h0, h1⟩)
            · exact .inl h0
          clear he
          generalize la[i] = x at *
          generalize lb[i] = y at *
          rcases hd with h0 | ⟨h0, h1⟩ | ⟨h0, h1, h2⟩
          · go_wp2_with fail
            go_quiet (fail)
            go_wp2_with fail
            go_ret
            rw [HF0.out HNe.out]
            exact ⟨rfl, _, drewN_two _ _ _⟩
          · rw [h0] at q0
            go_wp2_with fail
            go_quiet (fail)
            go_wp2_with fail
            go_ret
            rw [HF0.out HNe.out]
            exact ⟨rfl, _, drewN_two _ _ _⟩
          · rw [h0] at q0
            rw [h1] at q1
            go_wp2_with fail
            go_quiet (fail)
            go_wp2_with fail
            go_ret
            rw [HF0.out HNe.out]
            exact ⟨rfl, _, drewN_two _ _ _⟩
      · have hli : ¬ (i : Int) < la.length := by omega
        have HEq : Hid (la = lb) := by
          have h9 := HT.out
          rw [List.take_of_length_le (by omega), List.take_of_length_le (by have := HLn.out; omega)] at h9
          exact h9
        go_wp2_with fail
        go_ret
        rw [HT0.out HEq.out]
        exact ⟨rfl, _, rfl⟩
  · have hne : ((la.length : Int) != (lb.length : Int)) = true := by simp; omega
    have HNe : Hid (la ≠ lb) := fun e => hlen (by rw [e])
    go_wp2_with fail
    go_ret
    rw [HF0.out HNe.out]
    exact ⟨rfl, 0, rfl⟩
end
end Go.Proofs.Ytjmapbhgjhlefaa
