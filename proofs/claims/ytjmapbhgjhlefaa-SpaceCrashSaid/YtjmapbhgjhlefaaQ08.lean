/- Joined, as they were built one by one: Ext5 Ext6 Ext7. -/
import Derived.Lib.SlBytesConst
import Derived.Test.YtjmapbhgjhlefaaQ07
namespace Go.Proofs.Ytjmapbhgjhlefaa
open Go.RowKit
set_option linter.unusedVariables false
set_option maxRecDepth 100000

section
variable {w0 w : World} {F : SP}
theorem ow_rd {b : Nat} {t : TypeId} {fr : Nat × Nat} {l : List UInt8} (h : Sat w0 (Ow b (.cells (l.map bv).toArray t fr) * F) w) : Rd w (some ⟨b, 0, none⟩) l := fun _ =>
  ⟨b, 0, rfl, fun j hj => by
    rw [cell_of_row w b (0 + j) _ t fr h.block, Nat.zero_add, List.getElem?_toArray, List.getElem?_eq_getElem hj]⟩
/-- A head as far as k files. -/
def headK (turn n : Nat) (hs : List Hd) (k : Nat) : List UInt8 := markX ++ (putB turn 8 ++ (putB n 1 ++ ((hs.take k).map hdB).flatten))
theorem headK_succ {turn n : Nat} {hs : List Hd} {k : Nat} (h : k < hs.length) : headK turn n hs (k + 1) = headK turn n hs k ++ hdB hs[k] := by
  unfold headK
  rw [List.take_succ_eq_append_getElem h, List.map_append, List.flatten_append]
  simp
theorem headK_len {turn n : Nat} {hs : List Hd} {k : Nat} (h : k ≤ hs.length) : (headK turn n hs k).length = 13 + 20 * k := by
  unfold headK
  simp only [List.length_append, putB_len, heads_len, List.length_take, Nat.min_eq_left h]
  show 4 + _ = _
  omega
theorem headK_all (turn : Nat) (hs : List Hd) : headK turn hs.length hs hs.length = headB turn hs := by
  unfold headK headB
  rw [List.take_length]
set_option maxHeartbeats 4000000 in
theorem seal_any (A : Option Addr) (c : Nat) (gs : List (Nat × Fl)) (turn : Nat) (h : Sat w0 (FlsP gs * F) w) (hA : ∀ W, Sat w0 (FlsP gs * F) W → RdV W A (gs.map fun x => ptrV x.1)) (hn : gs.length ≤ 24) (ht : turn < 18446744073709551616) (ho : ∀ x ∈ gs, HdOk x.2.hd) :
    Calls Try.prog 84 #[.int .u64 (turn : Int), .slice A gs.length c] w fun e w' => ∃ B d, e = .returned (.slice B 512 d) ∧ Sat w0 (Row 5 1 (.slice B 512 d) 512 ((sealB turn (gs.map fun x => x.2.hd)).map bv) * (FlsP gs * F)) w' := by
  have hcv := fun (W : World) (C : Array Value) (n c : Nat) => Lib.run_convert_bytes_const (P := Try.prog) W 39 5 C n c Try.underlying39 Try.underlying5
  obtain ⟨P8, hP8⟩ : ∃ P, putB turn 8 = P := ⟨_, rfl⟩
  obtain ⟨P1, hP1⟩ : ∃ P, putB gs.length 1 = P := ⟨_, rfl⟩
  have l8 : P8.length = 8 := by rw [← hP8, putB_len]
  have l1 : P1.length = 1 := by rw [← hP1, putB_len]
  obtain ⟨hs, hhs⟩ : ∃ hs, hs = gs.map fun x => x.2.hd := ⟨_, rfl⟩
  have hsl : hs.length = gs.length := by rw [hhs, List.length_map]
  obtain ⟨H0, hH0⟩ : ∃ H0, H0 = headK turn gs.length hs 0 := ⟨_, rfl⟩
  have hH0l : H0.length = 13 := by rw [hH0, headK_len (Nat.zero_le _)]
  have HH0 : Hid (H0 = markX ++ (P8 ++ P1)) := by unfold Hid; rw [hH0]; unfold headK; rw [hP8, hP1]; simp
  have HH0e := Lib.hid hH0
  have HHs := Lib.hid hhs; have HSl := Lib.hid hsl
  have HP8 := Lib.hid hP8; have HP1 := Lib.hid hP1; have HA := Lib.hid hA; have HO := Lib.hid ho
  have ht0 : Hid (turn < 18446744073709551616) := ht
  have hwn : IntKind.u64.wrap (gs.length : Int) = gs.length := by rw [IntKind.wrap_u64]; omega
  have HS0 : Hid (Sat w0 (Ow w.heap.size (.cells #[.int .u8 84, .int .u8 68, .int .u8 88, .int .u8 49] 5 (4, 5)) * (FlsP gs * F)) (w.alloc (.cells #[.int .u8 84, .int .u8 68, .int .u8 88, .int .u8 49] 5 (4, 5)))) := h.alloc _
  have hH0m : H0.length ≤ 140737488355328 := by omega
  have HC8 : Hid (∀ (X : SP) (W : World), Sat w0 X W → Calls Try.prog 92 #[.int .u64 (turn : Int), .int .i64 8] W fun e w' => ∃ A c, e = .returned (.slice A P8.length c) ∧ Sat w0 (Row 5 1 (.slice A P8.length c) P8.length (P8.map bv) * X) w') := fun X W hX => oputS turn 8 8 rfl ht (by omega) (by omega) w0 W X hX P8 hP8
  have HC1 : Hid (∀ (X : SP) (W : World), Sat w0 X W → Calls Try.prog 92 #[.int .u64 (gs.length : Int), .int .i64 1] W fun e w' => ∃ A c, e = .returned (.slice A P1.length c) ∧ Sat w0 (Row 5 1 (.slice A P1.length c) P1.length (P1.map bv) * X) w') := fun X W hX => oputS gs.length 1 1 rfl (by omega) (by omega) (by omega) w0 W X hX P1 hP1
  clear hH0l h hA ho hP8 hP1 l8 l1 hhs hsl hH0 ht
  go_enter Try.func84, Try.ntmps84
  go_upto_region 2 with (first
    | (go_at_call 92; (with_reducible refine (HC8.out _ _ HS0.out).mono ?_); rintro y w1 ⟨A1, c1, rfl, hs1⟩; have HS1 := Lib.hid hs1; clear hs1)
    | (go_at_call 92; (with_reducible refine (HC1.out _ _ HS1.out).mono ?_); rintro y w2 ⟨A2, c2, rfl, hs2⟩; have HS2 := Lib.hid (hs2.allocPt 39 #[.slice (some ⟨w.heap.size, 0, none⟩) 4 4, .slice A1 P8.length c1, .slice A2 P1.length c2]); clear hs2; have HJ := Lib.hid (joinS (some ⟨w2.heap.size, 0, none⟩) 3 3 [(some ⟨w.heap.size, 0, none⟩, 4, markX), (A1, c1, P8), (A2, c2, P1)] rfl w0 _ _ HS2.out ⟨RdV.of_at HS2.out.at (fun j hj => by simp at hj; have : j = 0 ∨ j = 1 ∨ j = 2 := (by omega); rcases this with rfl | rfl | rfl <;> rfl), fun k hk => by simp at hk; rcases hk with rfl | rfl | rfl; exact ow_rd (l := markX) HS2.out.up4; exact RdV.of_own HS2.out.up3.row_own; exact RdV.of_own HS2.out.up2.row_own⟩ H0 (by rw [HH0.out]; simp [txt]) hH0m (by omega)))
    | (go_at_call 80; (with_reducible refine HJ.out.mono ?_); rintro y w3 ⟨A3, c3, rfl, hs3⟩; have HS3 := Lib.hid hs3.drop2.drop2.drop2.drop2; clear hs3))
  go_wp2_with fail
  go_loopw [5, 7, 20] (fun bw _ iv wr => ∃ (k : Nat) (B : Option Addr) (d : Nat) (X : List UInt8), k ≤ gs.length ∧ bw = .slice B X.length d ∧ iv = .int .i64 (k : Int) ∧ Hid (X = headK turn gs.length hs k ∧ Sat w0 (Row 5 1 (.slice B X.length d) X.length (X.map bv) * (FlsP gs * F)) wr)) (fun _ _ iv _ => gs.length - (intOf iv).toNat)
  case atStart => exact ⟨0, A3, c3, H0, by omega, rfl, rfl, HH0e.out, HS3.out⟩
  case round =>
    obtain ⟨k, B, d, X, hk, rfl, rfl, HD⟩ := hrel
    by_cases hlt : k < gs.length
    · obtain ⟨b, o, rfl, hc⟩ := ptr_get (HA.out wr HD.out.2.right) hlt
      have hk2 : (k : Int) < gs.length := by omega
      have hXl : X.length = 13 + 20 * k := by rw [HD.out.1, headK_len (by rw [HSl.out]; exact hk)]
      obtain ⟨o1, o2, o3, o4⟩ := HO.out gs[k] (List.getElem_mem hlt)
      obtain ⟨f, hf0⟩ : ∃ f, f = gs[k].2 := ⟨_, rfl⟩
      obtain ⟨q, hq0⟩ : ∃ q, q = gs[k].1 := ⟨_, rfl⟩
      have hsk : hs[k]'(by rw [HSl.out]; exact hlt) = f.hd := by simp only [HHs.out, List.getElem_map, hf0]
      rw [← hq0] at hc
      rw [← hf0] at o1 o2 o3 o4
      obtain ⟨v5, ks, hks, hfl⟩ := Sat.fl (p := q) (f := f) ((HD.out.2.up2.of (show _ = FlP q f * (Row 5 1 (.slice B X.length d) X.length (X.map bv) * (FlsP (gs.eraseIdx k) * F)) by rw [fls_at hlt, ← hf0, ← hq0]; ac_rfl)))
      obtain ⟨Pa, hPa⟩ : ∃ P, putB f.num 4 = P := ⟨_, rfl⟩
      obtain ⟨Pb, hPb⟩ : ∃ P, putB f.first 4 = P := ⟨_, rfl⟩
      obtain ⟨Pc, hPc⟩ : ∃ P, putB f.blocks 4 = P := ⟨_, rfl⟩
      obtain ⟨Pd, hPd⟩ : ∃ P, putB f.birth 8 = P := ⟨_, rfl⟩
      obtain ⟨Y, hY⟩ : ∃ Y, Y = X ++ (Pa ++ (Pb ++ (Pc ++ Pd))) := ⟨_, rfl⟩
      have hYl : Y.length ≤ 140737488355328 := by rw [hY, ← hPa, ← hPb, ← hPc, ← hPd]; simp only [List.length_append, putB_len]; omega
      have HYk : Hid (Y = headK turn gs.length hs (k + 1)) := by
        unfold Hid
        rw [headK_succ (by rw [HSl.out]; exact hlt), hsk, hY, ← HD.out.1]
        unfold hdB Fl.hd
        simp only [hPa, hPb, hPc, hPd]
      have n1 : f.num < 4294967296 := o1
      have n2 : f.first < 4294967296 := o2
      have n3 : f.blocks < 4294967296 := o3
      have n4 : Hid (f.birth < 18446744073709551616) := o4
      have w1' : IntKind.u64.wrap (f.num : Int) = f.num := by rw [IntKind.wrap_u64]; omega
      have w2' : IntKind.u64.wrap (f.first : Int) = f.first := by rw [IntKind.wrap_u64]; omega
      have w3' : IntKind.u64.wrap (f.blocks : Int) = f.blocks := by rw [IntKind.wrap_u64]; omega
      have HCa : Hid (∀ (X : SP) (W : World), Sat w0 X W → Calls Try.prog 92 #[.int .u64 (f.num : Int), .int .i64 4] W fun e w' => ∃ A c, e = .returned (.slice A Pa.length c) ∧ Sat w0 (Row 5 1 (.slice A Pa.length c) Pa.length (Pa.map bv) * X) w') := fun X W hX => oputS f.num 4 4 rfl (by omega) (by omega) (by omega) w0 W X hX Pa hPa
      have HCb : Hid (∀ (X : SP) (W : World), Sat w0 X W → Calls Try.prog 92 #[.int .u64 (f.first : Int), .int .i64 4] W fun e w' => ∃ A c, e = .returned (.slice A Pb.length c) ∧ Sat w0 (Row 5 1 (.slice A Pb.length c) Pb.length (Pb.map bv) * X) w') := fun X W hX => oputS f.first 4 4 rfl (by omega) (by omega) (by omega) w0 W X hX Pb hPb
      have HCc : Hid (∀ (X : SP) (W : World), Sat w0 X W → Calls Try.prog 92 #[.int .u64 (f.blocks : Int), .int .i64 4] W fun e w' => ∃ A c, e = .returned (.slice A Pc.length c) ∧ Sat w0 (Row 5 1 (.slice A Pc.length c) Pc.length (Pc.map bv) * X) w') := fun X W hX => oputS f.blocks 4 4 rfl (by omega) (by omega) (by omega) w0 W X hX Pc hPc
      have HCd : Hid (∀ (X : SP) (W : World), Sat w0 X W → Calls Try.prog 92 #[.int .u64 (f.birth : Int), .int .i64 8] W fun e w' => ∃ A c, e = .returned (.slice A Pd.length c) ∧ Sat w0 (Row 5 1 (.slice A Pd.length c) Pd.length (Pd.map bv) * X) w') := fun X W hX => oputS f.birth 8 8 rfl o4 (by omega) (by omega) w0 W X hX Pd hPd
      have HS := Lib.hid hfl.drew
      have HKs := Lib.hid hks; have Hf0 := Lib.hid hf0; have Hq0 := Lib.hid hq0; have HY := Lib.hid hY
      clear hfl hks hf0 hq0 hY hPa hPb hPc hPd hsk hXl o1 o2 o3 o4 n1 n2 n3
      go_upto_region 5 with fail
      refine wp_region_held_drew (S := fun w' => w'.cell? ⟨q, 0, none⟩ = some (.int .i64 (f.num : Int)) ∧ w'.cell? ⟨q, 1, none⟩ = some (.int .i64 (f.first : Int)) ∧ w'.cell? ⟨q, 2, none⟩ = some (.int .i64 (f.blocks : Int)) ∧ w'.cell? ⟨q, 3, none⟩ = some (.int .u64 (f.birth : Int))) (by kernel_rfl) ⟨HS.out.cell 0, HS.out.cell 1, HS.out.cell 2, HS.out.cell 3⟩ ?_
      intro hS0
      refine rgn_take (i := 0) (v := ?rv1) rfl (by kernel_rfl) (by kernel_rfl) (by kernel_rfl) (fun _ _ _ h => h) (by rfl) ?rh1 (by assumption) ?rr1
      case rh1 => (intro w hSw; (try dsimp only at hSw); go_simp; try with_reducible rfl)
      simp only [Act.put, List.setIfInBounds_toArray, List.set_cons_zero, List.set_cons_succ]
      refine rgn_take (i := 1) (v := ?rv2) rfl (by kernel_rfl) (by kernel_rfl) (by kernel_rfl) (fun _ _ _ h => h) (by rfl) ?rh2 (by assumption) ?rr2
      case rh2 => (intro w hSw; (try dsimp only at hSw); go_simp; try with_reducible rfl)
      simp only [Act.put, List.setIfInBounds_toArray, List.set_cons_zero, List.set_cons_succ]
      refine rgn_take (i := 2) (v := ?rv3) rfl (by kernel_rfl) (by kernel_rfl) (by kernel_rfl) (fun _ _ _ h => h) (by rfl) ?rh3 (by assumption) ?rr3
      case rh3 => (intro w hSw; (try dsimp only at hSw); go_simp; try with_reducible rfl)
      simp only [Act.put, List.setIfInBounds_toArray, List.set_cons_zero, List.set_cons_succ]
      refine rgn_take (i := 3) (v := ?rv4) rfl (by kernel_rfl) (by kernel_rfl) (by kernel_rfl) (fun _ _ _ h => h) (by rfl) ?rh4 (by assumption) ?rr4
      case rh4 => (intro w hSw; (try dsimp only at hSw); go_simp; try with_reducible rfl)
      simp only [Act.put, List.setIfInBounds_toArray, List.set_cons_zero, List.set_cons_succ]
      refine rgn_take (i := 4) (v := ?rv5) rfl (by kernel_rfl) (by kernel_rfl) (by kernel_rfl) (fun _ _ _ h => h) (by rfl) ?rh5 (by assumption) ?rr5
      case rh5 => (intro w hSw; (try dsimp only at hSw); go_simp; try with_reducible rfl)
      simp only [Act.put, List.setIfInBounds_toArray, List.set_cons_zero, List.set_cons_succ]
      refine rgn_take (i := 5) (v := ?rv6) rfl (by kernel_rfl) (by kernel_rfl) (by kernel_rfl) (fun _ _ _ h => h) (by rfl) ?rh6 (by assumption) ?rr6
      case rh6 => (intro w hSw; (try dsimp only at hSw); go_simp; try with_reducible rfl)
      simp only [Act.put, List.setIfInBounds_toArray, List.set_cons_zero, List.set_cons_succ]
      refine rgn_take (i := 6) (v := ?rv7) rfl (by kernel_rfl) (by kernel_rfl) (by kernel_rfl) (fun _ _ _ h => h) (by rfl) ?rh7 (by assumption) ?rr7
      case rh7 => (intro w hSw; (try dsimp only at hSw); go_simp; try with_reducible rfl)
      simp only [Act.put, List.setIfInBounds_toArray, List.set_cons_zero, List.set_cons_succ]
      refine rgn_take (i := 8) (v := ?rv8) rfl (by kernel_rfl) (by kernel_rfl) (by kernel_rfl) (fun _ _ _ h => h) (by rfl) ?rh8 (by assumption) ?rr8
      case rh8 => (intro w hSw; (try dsimp only at hSw); go_simp; try with_reducible rfl)
      simp only [Act.put, List.setIfInBounds_toArray, List.set_cons_zero, List.set_cons_succ]
      refine rgn_take (i := 9) (v := ?rv9) rfl (by kernel_rfl) (by kernel_rfl) (by kernel_rfl) (fun _ _ _ h => h) (by rfl) ?rh9 (by assumption) ?rr9
      case rh9 => (intro w hSw; (try dsimp only at hSw); go_simp; try with_reducible rfl)
      simp only [Act.put, List.setIfInBounds_toArray, List.set_cons_zero, List.set_cons_succ]
      refine rgn_take (i := 10) (v := ?rv10) rfl (by kernel_rfl) (by kernel_rfl) (by kernel_rfl) (fun _ _ _ h => h) (by rfl) ?rh10 (by assumption) ?rr10
      case rh10 => (intro w hSw; (try dsimp only at hSw); go_simp; try with_reducible rfl)
      simp only [Act.put, List.setIfInBounds_toArray, List.set_cons_zero, List.set_cons_succ]
      refine rgn_take (i := 11) (v := ?rv11) rfl (by kernel_rfl) (by kernel_rfl) (by kernel_rfl) (fun _ _ _ h => h) (by rfl) ?rh11 (by assumption) ?rr11
      case rh11 => (intro w hSw; (try dsimp only at hSw); go_simp; try with_reducible rfl)
      simp only [Act.put, List.setIfInBounds_toArray, List.set_cons_zero, List.set_cons_succ]
      refine rgn_take (i := 12) (v := ?rv12) rfl (by kernel_rfl) (by kernel_rfl) (by kernel_rfl) (fun _ _ _ h => h) (by rfl) ?rh12 (by assumption) ?rr12
      case rh12 => (intro w hSw; (try dsimp only at hSw); go_simp; try with_reducible rfl)
      simp only [Act.put, List.setIfInBounds_toArray, List.set_cons_zero, List.set_cons_succ]
      refine rgn_take (i := 13) (v := ?rv13) rfl (by kernel_rfl) (by kernel_rfl) (by kernel_rfl) (fun _ _ _ h => h) (by rfl) ?rh13 (by assumption) ?rr13
      case rh13 => (intro w hSw; (try dsimp only at hSw); go_simp; try with_reducible rfl)
      simp only [Act.put, List.setIfInBounds_toArray, List.set_cons_zero, List.set_cons_succ]
      refine rgn_take (i := 15) (v := ?rv14) rfl (by kernel_rfl) (by kernel_rfl) (by kernel_rfl) (fun _ _ _ h => h) (by rfl) ?rh14 (by assumption) ?rr14
      case rh14 => (intro w hSw; (try dsimp only at hSw); go_simp; try with_reducible rfl)
      simp only [Act.put, List.setIfInBounds_toArray, List.set_cons_zero, List.set_cons_succ]
      refine rgn_take (i := 16) (v := ?rv15) rfl (by kernel_rfl) (by kernel_rfl) (by kernel_rfl) (fun _ _ _ h => h) (by rfl) ?rh15 (by assumption) ?rr15
      case rh15 => (intro w hSw; (try dsimp only at hSw); go_simp; try with_reducible rfl)
      simp only [Act.put, List.setIfInBounds_toArray, List.set_cons_zero, List.set_cons_succ]
      refine rgn_take (i := 17) (v := ?rv16) rfl (by kernel_rfl) (by kernel_rfl) (by kernel_rfl) (fun _ _ _ h => h) (by rfl) ?rh16 (by assumption) ?rr16
      case rh16 => (intro w hSw; (try dsimp only at hSw); go_simp; try with_reducible rfl)
      simp only [Act.put, List.setIfInBounds_toArray, List.set_cons_zero, List.set_cons_succ]
      refine rgn_take (i := 18) (v := ?rv17) rfl (by kernel_rfl) (by kernel_rfl) (by kernel_rfl) (fun _ _ _ h => h) (by rfl) ?rh17 (by assumption) ?rr17
      case rh17 => (intro w hSw; (try dsimp only at hSw); go_simp; try with_reducible rfl)
      simp only [Act.put, List.setIfInBounds_toArray, List.set_cons_zero, List.set_cons_succ]
      refine rgn_take (i := 19) (v := ?rv18) rfl (by kernel_rfl) (by kernel_rfl) (by kernel_rfl) (fun _ _ _ h => h) (by rfl) ?rh18 (by assumption) ?rr18
      case rh18 => (intro w hSw; (try dsimp only at hSw); go_simp; try with_reducible rfl)
      simp only [Act.put, List.setIfInBounds_toArray, List.set_cons_zero, List.set_cons_succ]
      refine rgn_take (i := 20) (v := ?rv19) rfl (by kernel_rfl) (by kernel_rfl) (by kernel_rfl) (fun _ _ _ h => h) (by rfl) ?rh19 (by assumption) ?rr19
      case rh19 => (intro w hSw; (try dsimp only at hSw); go_simp; try with_reducible rfl)
      simp only [Act.put, List.setIfInBounds_toArray, List.set_cons_zero, List.set_cons_succ]
      refine rgn_take (i := 22) (v := ?rv20) rfl (by kernel_rfl) (by kernel_rfl) (by kernel_rfl) (fun _ _ _ h => h) (by rfl) ?rh20 (by assumption) ?rr20
      case rh20 => (intro w hSw; (try dsimp only at hSw); go_simp; try with_reducible rfl)
      simp only [Act.put, List.setIfInBounds_toArray, List.set_cons_zero, List.set_cons_succ]
      refine rgn_take (i := 23) (v := ?rv21) rfl (by kernel_rfl) (by kernel_rfl) (by kernel_rfl) (fun _ _ _ h => h) (by rfl) ?rh21 (by assumption) ?rr21
      case rh21 => (intro w hSw; (try dsimp only at hSw); go_simp; try with_reducible rfl)
      simp only [Act.put, List.setIfInBounds_toArray, List.set_cons_zero, List.set_cons_succ]
      refine rgn_take (i := 24) (v := ?rv22) rfl (by kernel_rfl) (by kernel_rfl) (by kernel_rfl) (fun _ _ _ h => h) (by rfl) ?rh22 (by assumption) ?rr22
      case rh22 => (intro w hSw; (try dsimp only at hSw); go_simp; try with_reducible rfl)
      simp only [Act.put, List.setIfInBounds_toArray, List.set_cons_zero, List.set_cons_succ]
      refine rgn_take (i := 25) (v := ?rv23) rfl (by kernel_rfl) (by kernel_rfl) (by kernel_rfl) (fun _ _ _ h => h) (by rfl) ?rh23 (by assumption) ?rr23
      case rh23 => (intro w hSw; (try dsimp only at hSw); go_simp; try with_reducible rfl)
      simp only [Act.put, List.setIfInBounds_toArray, List.set_cons_zero, List.set_cons_succ]
      refine rgn_call (i := 7) rfl (by kernel_rfl) (fun K hK => ?_)
      go_simp
      go_at_call 92; (with_reducible refine (HCa.out _ _ HS.out).mono ?_); rintro y w7 ⟨A7, c7, rfl, hs⟩; replace HS := Lib.hid hs; clear hs
      refine hK.out _ _ ⟨HS.out.up2.cell 0, HS.out.up2.cell 1, HS.out.up2.cell 2, HS.out.up2.cell 3⟩ (fun hS0 => ?_)
      clear hK K
      refine rgn_call (i := 14) rfl (by kernel_rfl) (fun K hK => ?_)
      go_simp
      go_at_call 92; (with_reducible refine (HCb.out _ _ HS.out).mono ?_); rintro y w14 ⟨A14, c14, rfl, hs⟩; replace HS := Lib.hid hs; clear hs
      refine hK.out _ _ ⟨HS.out.up3.cell 0, HS.out.up3.cell 1, HS.out.up3.cell 2, HS.out.up3.cell 3⟩ (fun hS0 => ?_)
      clear hK K
      refine rgn_call (i := 21) rfl (by kernel_rfl) (fun K hK => ?_)
      go_simp
      go_at_call 92; (with_reducible refine (HCc.out _ _ HS.out).mono ?_); rintro y w21 ⟨A21, c21, rfl, hs⟩; replace HS := Lib.hid hs; clear hs
      refine hK.out _ _ ⟨HS.out.up4.cell 0, HS.out.up4.cell 1, HS.out.up4.cell 2, HS.out.up4.cell 3⟩ (fun hS0 => ?_)
      clear hK K
      refine rgn_call (i := 26) rfl (by kernel_rfl) (fun K hK => ?_)
      go_simp
      go_at_call 92; (with_reducible refine (HCd.out _ _ HS.out).mono ?_); rintro y w26 ⟨A26, c26, rfl, hs⟩; replace HS := Lib.hid hs; clear hs
      refine hK.out _ _ ⟨HS.out.up5.cell 0, HS.out.up5.cell 1, HS.out.up5.cell 2, HS.out.up5.cell 3⟩ (fun hS0 => ?_)
      clear hK K
      refine rgn_call (i := 27) rfl (by kernel_rfl) (fun K hK => ?_)
      go_simp
      have hs := HS.out.allocPt 39 #[.slice B X.length d, .slice A7 Pa.length c7, .slice A14 Pb.length c14, .slice A21 Pc.length c21, .slice A26 Pd.length c26]; revert hs; generalize World.alloc w26 _ = w27; generalize w26.heap.size = B27; intro hs; replace HS := Lib.hid hs; clear hs
      refine hK.out _ _ ⟨HS.out.up6.cell 0, HS.out.up6.cell 1, HS.out.up6.cell 2, HS.out.up6.cell 3⟩ (fun hS0 => ?_)
      clear hK K
      refine rgn_call (i := 28) rfl (by kernel_rfl) (fun K hK => ?_)
      go_simp
      have HJ9 := Lib.hid (joinS (some ⟨B27, 0, none⟩) 5 5 [(B, d, X), (A7, c7, Pa), (A14, c14, Pb), (A21, c21, Pc), (A26, c26, Pd)] rfl w0 w27 _ HS.out ⟨RdV.of_at HS.out.at (fun j hj => by simp at hj; have : j = 0 ∨ j = 1 ∨ j = 2 ∨ j = 3 ∨ j = 4 := (by omega); rcases this with rfl | rfl | rfl | rfl | rfl <;> rfl), fun k hk => by simp at hk; rcases hk with rfl | rfl | rfl | rfl | rfl; exact RdV.of_own HS.out.right.right.right.up6.row_own; exact RdV.of_own HS.out.up5.row_own; exact RdV.of_own HS.out.up4.row_own; exact RdV.of_own HS.out.up3.row_own; exact RdV.of_own HS.out.up2.row_own⟩ Y (by rw [HY.out]; simp [txt]) hYl (by omega)); go_at_call 80; (with_reducible refine HJ9.out.mono ?_); rintro y w28 ⟨A28, c28, rfl, hs⟩; replace HS := Lib.hid hs; clear hs HJ9
      refine hK.out _ _ ⟨HS.out.right.up6.cell 0, HS.out.right.up6.cell 1, HS.out.right.up6.cell 2, HS.out.right.up6.cell 3⟩ (fun hS0 => ?_)
      clear hK K
      refine rgn_take (i := 29) (v := ?rv30) rfl (by kernel_rfl) (by kernel_rfl) (by kernel_rfl) (fun _ _ _ h => h) (by rfl) ?rh30 (by assumption) ?rr30
      case rh30 => (intro w hSw; (try dsimp only at hSw); go_simp; try with_reducible rfl)
      simp only [Act.put, List.setIfInBounds_toArray, List.set_cons_zero, List.set_cons_succ]
      refine wpAnyH_done (by kernel_rfl) ?_ _
      go_wp2_with fail
      go_roundw
      · refine ⟨k + 1, A28, c28, Y, by omega, rfl, by push_cast; rfl, HYk.out, ?_⟩
        have h9 := HS.out.drop2.drop2.drop2.drop2.drop2
        have h8 := Sat.flI HKs.out (h9.of (show _ = Pt q 110 (flC f v5) * (Row 39 1 v5 ks.length (ks.map slOf) * (RoL ks * (Row 5 1 (.slice A28 Y.length c28) Y.length (Y.map bv) * (Row 5 1 (.slice B X.length d) X.length (X.map bv) * (FlsP (gs.eraseIdx k) * F))))) by ac_rfl))
        have h7 := (h8.up3.right).up2
        refine h7.of ?_
        rw [fls_at hlt, Hf0.out, Hq0.out]
        ac_rfl
      · simp [intOf]; omega
    · obtain rfl : k = gs.length := by omega
      have hk2 : ¬ ((gs.length : Nat) : Int) < gs.length := by omega
      have HX : Hid (X = headB turn hs) := by unfold Hid; rw [HD.out.1, ← headK_all, HSl.out]
      have hXl : X.length = 13 + 20 * gs.length := by rw [HD.out.1, headK_len (by rw [HSl.out]; exact Nat.le_refl _)]
      have hX0 : 0 < X.length := by omega
      have hXm : X.length ≤ 493 := by omega
      have hsub : (512 : Int) - (X.length : Int) = ((512 - X.length : Nat) : Int) := by omega
      have HFr : Hid ((sealB turn hs).map bv = X.map bv ++ nulls (512 - X.length)) := by unfold Hid sealB; rw [pad_map, HX.out]
      have HS := Lib.hid HD.out.2
      clear hXl HD
      go_upto_region 7 with fail
      obtain ⟨g, rfl, _⟩ := HS.out.row_at hX0
      obtain ⟨j0, hj, hy0, hy1, hy2⟩ := info_parts info_u8o
      go_wp2_with (at_builtin; refine wpList_appZ rfl (.tmp 54) (.tmp 57) 39 3 5 j0 rfl Try.underlying39 Try.underlying3 hj hy0 hy1 hy2 g X.length d (512 - X.length) (X.map bv) rfl rfl w0 _ HS.out (by omega) (by omega) ?_; intro A5 c5 w5 hs; replace HS := Lib.hid hs; clear hs)
      go_ret
      have e5 : X.length + (512 - X.length) = 512 := by omega
      have h9 := HS.out
      rw [e5, ← HFr.out] at h9
      exact ⟨A5, c5, by rw [e5]; rfl, by rw [← HHs.out]; exact h9⟩
end
end Go.Proofs.Ytjmapbhgjhlefaa
namespace Go.Proofs.Ytjmapbhgjhlefaa
open Go.RowKit
set_option linter.unusedVariables false
set_option maxRecDepth 100000

section
variable {w0 w : World} {F : SP} {s d slot turn : Nat} {v V : Value} {gs : List (Nat × Fl)} {D : Dk}
theorem write_pend (D : Dk) (i : Int) (b : List UInt8) : (D.write i b).1.pend.length ≤ D.pend.length + 1 := by
  unfold Dk.write
  split
  · split
    · show (D.pend ++ [_]).length ≤ _
      rw [List.length_append]
      exact Nat.le_refl _
    · exact Nat.le_succ _
  · exact Nat.le_succ _
def slotN (slot : Nat) : Nat := (slot + 1) % 2
def turnN (turn : Nat) : Nat := (turn + 1) % 18446744073709551616
/-- What a space's block says behind a put. -/
def putC (d slot turn : Nat) (v V : Value) (ok : Bool) : Array Value := if ok then #[ptrV d, .int .i64 (slotN slot : Int), .int .u64 (turnN turn : Int), V] else #[ptrV d, .int .i64 (slot : Int), .int .u64 (turn : Int), v]
def PutX (w0 : World) (F : SP) (s d slot turn : Nat) (v V : Value) (gs : List (Nat × Fl)) (R1 R2 : Dk × Int) (e : Ending) (w' : World) : Prop :=
  (R1.2 ≠ 0 ∧ e = .returned (.int .i64 R1.2) ∧ Sat w0 (Pt s 102 (putC d slot turn v V false) * (Row 104 1 V gs.length (gs.map fun x => ptrV x.1) * (FlsP gs * (Disk d R1.1 * F)))) w') ∨
  (R1.2 = 0 ∧ R2.2 ≠ 0 ∧ e = .returned (.int .i64 R2.2) ∧ Sat w0 (Pt s 102 (putC d slot turn v V false) * (Row 104 1 V gs.length (gs.map fun x => ptrV x.1) * (FlsP gs * (Disk d R2.1 * F)))) w') ∨
  (R1.2 = 0 ∧ R2.2 = 0 ∧ e = .returned (.int .i64 0) ∧ Sat w0 (Pt s 102 (putC d slot turn v V true) * (Row 104 1 V gs.length (gs.map fun x => ptrV x.1) * (FlsP gs * (Disk d R2.1 * F)))) w')
set_option maxHeartbeats 4000000 in
theorem put_any (h : Sat w0 (Pt s 102 #[ptrV d, .int .i64 (slot : Int), .int .u64 (turn : Int), v] * (Row 104 1 V gs.length (gs.map fun x => ptrV x.1) * (FlsP gs * (Disk d D * F)))) w) (hn : gs.length ≤ 24) (hsl : slot < 2) (htu : turn < 18446744073709551616) (ho : ∀ x ∈ gs, HdOk x.2.hd) (hw1 : D.writes ≤ 1000000000) (hw2 : D.pend.length ≤ 999999999) (hw3 : D.armed ≤ 9223372036854775807) :
    Calls Try.prog 56 #[.pointer (some ⟨s, 0, none⟩), V] w (PutX w0 F s d slot turn v V gs (D.write (slotN slot : Int) (sealB (turnN turn) (gs.map fun x => x.2.hd))) (D.write (slotN slot : Int) (sealB (turnN turn) (gs.map fun x => x.2.hd))).1.flush) := by
  obtain ⟨A, c, rfl, hc1, hc2⟩ := h.up2.row_sl
  obtain ⟨b, hb⟩ : ∃ b, b = sealB (turnN turn) (gs.map fun x => x.2.hd) := ⟨_, rfl⟩
  have hbl : b.length = 512 := by rw [hb]; exact sealB_len (by rw [List.length_map]; exact hn)
  obtain ⟨R1, hR1⟩ : ∃ R, R = D.write (slotN slot : Int) b := ⟨_, rfl⟩
  obtain ⟨R2, hR2⟩ : ∃ R, R = R1.1.flush := ⟨_, rfl⟩
  rw [← hb, ← hR1, ← hR2]
  have hp1 : R1.1.pend.length ≤ 1000000000 := by have := write_pend D (slotN slot : Int) b; rw [← hR1] at this; omega
  have HW : Hid (∀ (X : SP) (W : World) (A : Option Addr) (c : Nat), Sat w0 (Disk d D * X) W → Rd W A b → Calls Try.prog 70 #[.pointer (some ⟨d, 0, none⟩), .int .i64 (slotN slot : Int), .slice A 512 c] W fun e w' => e = .returned (.int .i64 R1.2) ∧ Sat w0 (Disk d R1.1 * X) w') := fun X W A c hX hA => by
    have h9 := write_any d D (slotN slot : Int) A c b w0 W X hX hA (by omega) hw1 (by omega) hw3
    unfold WriteD at h9
    rw [hbl, ← hR1] at h9
    exact h9
  have HFl : Hid (∀ (X : SP) (W : World), Sat w0 (Disk d R1.1 * X) W → Calls Try.prog 66 #[.pointer (some ⟨d, 0, none⟩)] W fun e w' => e = .returned (.int .i64 R2.2) ∧ Sat w0 (Disk d R2.1 * X) w') := fun X W hX => by
    have h9 := flush_any d R1.1 w0 W X hX hp1
    rw [← hR2] at h9
    exact h9
  have htn : turnN turn < 18446744073709551616 := Nat.mod_lt _ (by omega)
  have HSe : Hid (∀ (W : World), Sat w0 (FlsP gs * (Row 104 1 (.slice A gs.length c) gs.length (gs.map fun x => ptrV x.1) * (Pt s 102 #[ptrV d, .int .i64 (slot : Int), .int .u64 (turn : Int), v] * (Disk d D * F)))) W →
      Calls Try.prog 84 #[.int .u64 (turnN turn : Int), .slice A gs.length c] W fun e w' => ∃ B d', e = .returned (.slice B 512 d') ∧ Sat w0 (Row 5 1 (.slice B 512 d') 512 (b.map bv) * (FlsP gs * (Row 104 1 (.slice A gs.length c) gs.length (gs.map fun x => ptrV x.1) * (Pt s 102 #[ptrV d, .int .i64 (slot : Int), .int .u64 (turn : Int), v] * (Disk d D * F))))) w') := fun W hW => by
    rw [hb]
    exact seal_any A c gs (turnN turn) hW (fun W2 hW2 => RdV.of_own hW2.right.row_own) hn htn ho
  have e1 : ((slot : Int) + 1).tmod 2 = (slotN slot : Int) := by
    rw [Int.tmod_eq_emod_of_nonneg (by omega)]
    unfold slotN
    omega
  have e1' : IntKind.i64.wrap ((slot : Int) + 1) = (slot : Int) + 1 := by rw [IntKind.wrap_i64]; omega
  have e2 : IntKind.u64.wrap ((turn : Int) + 1) = (turnN turn : Int) := by
    rw [IntKind.wrap_u64]
    unfold turnN
    omega
  have HS := Lib.hid h
  have y0 : w.cell? ⟨s, 0, none⟩ = some (.pointer (some ⟨d, 0, none⟩)) := h.cell 0
  have y1 : w.cell? ⟨s, 1, none⟩ = some (.int .i64 (slot : Int)) := h.cell 1
  clear h ho hb hbl hR1 hR2 hp1 htn hw1 hw2 hw3
  generalize hsl9 : slotN slot = sl at *
  generalize htu9 : turnN turn = tu at *
  have HSl := Lib.hid hsl9; have HTu := Lib.hid htu9
  clear hsl9 htu9
  go_enter Try.func56, Try.ntmps56
  go_upto_region 2 with fail
  replace HS := Lib.hid ((HS.out.drew).of (show _ = FlsP gs * (Row 104 1 (.slice A gs.length c) gs.length (gs.map fun x => ptrV x.1) * (Pt s 102 #[ptrV d, .int .i64 (slot : Int), .int .u64 (turn : Int), v] * (Disk d D * F))) by ac_rfl))
  clear y0 y1
  refine wp_region_held_drew (S := fun w' => w'.cell? ⟨s, 0, none⟩ = some (.pointer (some ⟨d, 0, none⟩)) ∧ w'.cell? ⟨s, 2, none⟩ = some (.int .u64 (turn : Int))) (by kernel_rfl) ⟨HS.out.up3.cell 0, HS.out.up3.cell 2⟩ ?_
  intro hS0
  refine rgn_take (i := 0) (v := ?rv1) rfl (by kernel_rfl) (by kernel_rfl) (by kernel_rfl) (fun _ _ _ h => h) (by rfl) ?rh1 (by assumption) ?rr1
  case rh1 => (intro w hSw; (try dsimp only at hSw); go_simp; try with_reducible rfl)
  simp only [Act.put, List.setIfInBounds_toArray, List.set_cons_zero, List.set_cons_succ]
  refine rgn_take (i := 1) (v := ?rv2) rfl (by kernel_rfl) (by kernel_rfl) (by kernel_rfl) (fun _ _ _ h => h) (by rfl) ?rh2 (by assumption) ?rr2
  case rh2 => (intro w hSw; (try dsimp only at hSw); go_simp; try with_reducible rfl)
  simp only [Act.put, List.setIfInBounds_toArray, List.set_cons_zero, List.set_cons_succ]
  refine rgn_take (i := 2) (v := ?rv3) rfl (by kernel_rfl) (by kernel_rfl) (by kernel_rfl) (fun _ _ _ h => h) (by rfl) ?rh3 (by assumption) ?rr3
  case rh3 => (intro w hSw; (try dsimp only at hSw); go_simp; try with_reducible rfl)
  simp only [Act.put, List.setIfInBounds_toArray, List.set_cons_zero, List.set_cons_succ]
  refine rgn_take (i := 3) (v := ?rv4) rfl (by kernel_rfl) (by kernel_rfl) (by kernel_rfl) (fun _ _ _ h => h) (by rfl) ?rh4 (by assumption) ?rr4
  case rh4 => (intro w hSw; (try dsimp only at hSw); go_simp; try with_reducible rfl)
  simp only [Act.put, List.setIfInBounds_toArray, List.set_cons_zero, List.set_cons_succ]
  refine rgn_take (i := 4) (v := ?rv5) rfl (by kernel_rfl) (by kernel_rfl) (by kernel_rfl) (fun _ _ _ h => h) (by rfl) ?rh5 (by assumption) ?rr5
  case rh5 => (intro w hSw; (try dsimp only at hSw); go_simp; try with_reducible rfl)
  simp only [Act.put, List.setIfInBounds_toArray, List.set_cons_zero, List.set_cons_succ]
  refine rgn_take (i := 5) (v := ?rv6) rfl (by kernel_rfl) (by kernel_rfl) (by kernel_rfl) (fun _ _ _ h => h) (by rfl) ?rh6 (by assumption) ?rr6
  case rh6 => (intro w hSw; (try dsimp only at hSw); go_simp; try with_reducible rfl)
  simp only [Act.put, List.setIfInBounds_toArray, List.set_cons_zero, List.set_cons_succ]
  refine rgn_take (i := 6) (v := ?rv7) rfl (by kernel_rfl) (by kernel_rfl) (by kernel_rfl) (fun _ _ _ h => h) (by rfl) ?rh7 (by assumption) ?rr7
  case rh7 => (intro w hSw; (try dsimp only at hSw); go_simp; try with_reducible rfl)
  simp only [Act.put, List.setIfInBounds_toArray, List.set_cons_zero, List.set_cons_succ]
  refine rgn_take (i := 7) (v := ?rv8) rfl (by kernel_rfl) (by kernel_rfl) (by kernel_rfl) (fun _ _ _ h => h) (by rfl) ?rh8 (by assumption) ?rr8
  case rh8 => (intro w hSw; (try dsimp only at hSw); go_simp; try with_reducible rfl)
  simp only [Act.put, List.setIfInBounds_toArray, List.set_cons_zero, List.set_cons_succ]
  refine rgn_take (i := 8) (v := ?rv9) rfl (by kernel_rfl) (by kernel_rfl) (by kernel_rfl) (fun _ _ _ h => h) (by rfl) ?rh9 (by assumption) ?rr9
  case rh9 => (intro w hSw; (try dsimp only at hSw); go_simp; try with_reducible rfl)
  simp only [Act.put, List.setIfInBounds_toArray, List.set_cons_zero, List.set_cons_succ]
  refine rgn_take (i := 9) (v := ?rv10) rfl (by kernel_rfl) (by kernel_rfl) (by kernel_rfl) (fun _ _ _ h => h) (by rfl) ?rh10 (by assumption) ?rr10
  case rh10 => (intro w hSw; (try dsimp only at hSw); go_simp; try with_reducible rfl)
  simp only [Act.put, List.setIfInBounds_toArray, List.set_cons_zero, List.set_cons_succ]
  refine rgn_take (i := 10) (v := ?rv11) rfl (by kernel_rfl) (by kernel_rfl) (by kernel_rfl) (fun _ _ _ h => h) (by rfl) ?rh11 (by assumption) ?rr11
  case rh11 => (intro w hSw; (try dsimp only at hSw); go_simp; try with_reducible rfl)
  simp only [Act.put, List.setIfInBounds_toArray, List.set_cons_zero, List.set_cons_succ]
  refine rgn_call (i := 11) rfl (by kernel_rfl) (fun K hK => ?_)
  go_simp
  go_at_call 84; (with_reducible refine (HSe.out _ HS.out).mono ?_); rintro y w11 ⟨B11, d11, rfl, hs⟩; replace HS := Lib.hid hs; clear hs
  refine hK.out _ _ ⟨HS.out.up4.cell 0, HS.out.up4.cell 2⟩ (fun hS0 => ?_)
  clear hK K
  refine rgn_call (i := 12) rfl (by kernel_rfl) (fun K hK => ?_)
  go_simp
  go_at_call 70; refine (HW.out _ w11 B11 d11 HS.out.up5 (RdV.of_own HS.out.row_own)).mono ?_; rintro y w12 ⟨rfl, hs⟩; replace HS := Lib.hid hs.dn5; clear hs
  refine hK.out _ _ ⟨HS.out.up4.cell 0, HS.out.up4.cell 2⟩ (fun hS0 => ?_)
  clear hK K
  refine rgn_take (i := 13) (v := ?rv14) rfl (by kernel_rfl) (by kernel_rfl) (by kernel_rfl) (fun _ _ _ h => h) (by rfl) ?rh14 (by assumption) ?rr14
  case rh14 => (intro w hSw; (try dsimp only at hSw); go_simp; try with_reducible rfl)
  simp only [Act.put, List.setIfInBounds_toArray, List.set_cons_zero, List.set_cons_succ]
  refine wpAnyH_done (by kernel_rfl) ?_ _
  replace HS := Lib.hid HS.out.right
  by_cases hr1 : R1.2 = 0
  · go_upto_region 5 with fail
    have y0 : w12.cell? ⟨s, 0, none⟩ = some (.pointer (some ⟨d, 0, none⟩)) := HS.out.up3.cell 0
    go_upto_region 6 with (go_at_call 66; (with_reducible refine (HFl.out _ w12 HS.out.up4).mono ?_); rintro y w13 ⟨rfl, hs⟩; replace HS := Lib.hid hs.dn4; clear hs)
    clear y0
    by_cases hr2 : R2.2 = 0
    · have y1 : w13.cell? ⟨s, 1, none⟩ = some (.int .i64 (slot : Int)) := HS.out.up3.cell 1
      have y2 : w13.cell? ⟨s, 2, none⟩ = some (.int .u64 (turn : Int)) := HS.out.up3.cell 2
      have y3 : w13.cell? ⟨s, 3, none⟩ = some v := HS.out.up3.cell 3
      have f1 := HS.out.up3.frozen 1; have f2 := HS.out.up3.frozen 2; have f3 := HS.out.up3.frozen 3
      go_wp2_with fail
      go_ret
      refine .inr (.inr ⟨hr1, hr2, rfl, ?_⟩)
      have h9 := ((HS.out.up3.set 1 (.int .i64 (sl : Int))).set 3 (.slice A gs.length c)).set 2 (.int .u64 (tu : Int))
      unfold putC
      rw [if_pos rfl, HSl.out, HTu.out]
      exact h9.of (by
        show Pt s 102 #[ptrV d, .int .i64 (sl : Int), .int .u64 (tu : Int), .slice A gs.length c] * _ = _
        ac_rfl)
    · go_wp2_with fail
      go_ret
      refine .inr (.inl ⟨hr1, hr2, rfl, ?_⟩)
      exact HS.out.of (by unfold putC; rw [if_neg (by simp)]; ac_rfl)
  · go_wp2_with fail
    go_ret
    refine .inl ⟨hr1, rfl, ?_⟩
    exact HS.out.of (by unfold putC; rw [if_neg (by simp)]; ac_rfl)
end
end Go.Proofs.Ytjmapbhgjhlefaa
namespace Go.Proofs.Ytjmapbhgjhlefaa
open Go.RowKit
set_option linter.unusedVariables false
set_option maxRecDepth 100000

/-- A file as it lies: its number, its first block, how many. -/
def lieV (x : Nat × Nat × Nat) : List Value := [.int .i64 (x.1 : Int), .int .i64 (x.2.1 : Int), .int .i64 (x.2.2 : Int)]
section
variable {w0 w : World} {F : SP} {s d : Nat} {a1 a2 a3 : Value} {D : Dk} {lie : List (Nat × Nat × Nat)}
theorem lies_len : ∀ l : List (Nat × Nat × Nat), (l.flatMap lieV).length = l.length * 3
  | [] => rfl
  | x :: l => by rw [List.flatMap_cons, List.length_append, lies_len l, List.length_cons]; show 3 + _ = _; omega
theorem lie_get : ∀ (l : List (Nat × Nat × Nat)) (k j : Nat) (hk : k < l.length) (hj : j < 3), (l.flatMap lieV)[k * 3 + j]? = (lieV l[k])[j]?
  | x :: l, 0, j, hk, hj => by
    rw [List.flatMap_cons, List.getElem?_append_left (by show 0 * 3 + j < 3; omega)]
    simp
  | x :: l, k + 1, j, hk, hj => by
    rw [List.flatMap_cons, List.getElem?_append_right (by show 3 ≤ _; omega)]
    show (l.flatMap lieV)[(k + 1) * 3 + j - 3]? = _
    rw [show (k + 1) * 3 + j - 3 = k * 3 + j by omega]
    exact lie_get l k j (by simpa using hk) hj
theorem lie_at {A : Option Addr} (h : RdV w A (lie.flatMap lieV)) {k : Nat} (hk : k < lie.length) : ∃ b o, A = some ⟨b, o, none⟩ ∧ w.cell? ⟨b, o + k * 3, none⟩ = some (.int .i64 (lie[k].1 : Int)) ∧ w.cell? ⟨b, o + k * 3 + 1, none⟩ = some (.int .i64 (lie[k].2.1 : Int)) ∧ w.cell? ⟨b, o + k * 3 + 2, none⟩ = some (.int .i64 (lie[k].2.2 : Int)) := by
  have hl := lies_len lie
  obtain ⟨b, o, e, hc⟩ := h (by intro e; have h9 : lie.length * 3 = 0 := (by rw [← hl, e]; rfl); omega)
  have key : ∀ j, j < 3 → w.cell? ⟨b, o + k * 3 + j, none⟩ = (lieV lie[k])[j]? := fun j hj => by
    have hij : k * 3 + j < (lie.flatMap lieV).length := by rw [hl]; omega
    have := hc (k * 3 + j) hij
    rw [Nat.add_assoc, this, ← List.getElem?_eq_getElem hij, lie_get lie k j hk hj]
  exact ⟨b, o, e, key 0 (by omega), key 1 (by omega), key 2 (by omega)⟩
theorem placeX_fst {n : Nat} {bl : Int} : ∀ (l : List (Nat × Nat)) (f : Nat), f ≤ 131072 → (∀ p ∈ l, p.1 ≤ 65536 ∧ p.2 ≤ 65536) → (placeX n bl f l).1 ≤ 131072
  | [], f, hf, _ => hf
  | p :: l, f, hf, h => by
    unfold placeX
    split
    · exact hf
    · have := h p (by simp)
      exact placeX_fst l _ (by omega) (fun q hq => h q (List.mem_cons_of_mem _ hq))
set_option maxHeartbeats 2000000 in
theorem place_any (A : Option Addr) (c : Nat) (bl : Int) (h : Sat w0 (Pt s 102 #[ptrV d, a1, a2, a3] * (Disk d D * F)) w) (hr : RdV w A (lie.flatMap lieV)) (hl : lie.length ≤ 1000000) (hb : ∀ x ∈ lie, x.2.1 ≤ 65536 ∧ x.2.2 ≤ 65536) (hbl : -9223372036854775808 ≤ bl ∧ bl ≤ 9223372036854775807) (hn : D.cells.length ≤ 65536) :
    Calls Try.prog 63 #[.pointer (some ⟨s, 0, none⟩), .slice A lie.length c, .int .i64 bl] w fun e w' => e = .returned (.tuple #[.int .i64 ((placeX D.cells.length bl 2 (lie.map (·.2))).1 : Int), .bool (placeX D.cells.length bl 2 (lie.map (·.2))).2]) ∧ Chg No w w' := by
  have HB := Lib.hid fun (W : World) (k : Chg No w W) => blocks_any d D w0 W _ (h.up2.new k)
  have y0 : w.cell? ⟨s, 0, none⟩ = some (.pointer (some ⟨d, 0, none⟩)) := h.cell 0
  have HY : Hid (∀ W, Chg No w W → W.cell? ⟨s, 0, none⟩ = some (.pointer (some ⟨d, 0, none⟩))) := fun W k => k.cell y0 id
  have HR := Lib.hid hr
  have HBd := Lib.hid hb
  clear h hr hb y0
  go_enter Try.func63, Try.ntmps63
  go_wp2_with fail
  go_loopw [8, 10, 13] (fun fv _ iv wr => ∃ (k f : Nat), k ≤ lie.length ∧ f ≤ 131072 ∧ fv = .int .i64 (f : Int) ∧ iv = .int .i64 (k : Int) ∧ Hid (Chg No w wr ∧ placeX D.cells.length bl 2 (lie.map (·.2)) = placeX D.cells.length bl f ((lie.drop k).map (·.2)))) (fun _ _ iv _ => lie.length - (intOf iv).toNat)
  case atStart => exact ⟨0, 2, by omega, by omega, rfl, rfl, Chg.refl _ _, rfl⟩
  case round =>
    obtain ⟨k, f, hk, hf, rfl, rfl, HD⟩ := hrel
    by_cases hlt : k < lie.length
    · obtain ⟨b, o, rfl, z0, z1, z2⟩ := lie_at (HR.out.new HD.out.1) hlt
      have hk2 : (k : Int) < lie.length := by omega
      obtain ⟨hx1, hx2⟩ := HBd.out lie[k] (List.getElem_mem hlt)
      have hdr : lie.drop k = lie[k] :: lie.drop (k + 1) := List.drop_eq_getElem_cons hlt
      have HP : Hid (placeX D.cells.length bl 2 (lie.map (·.2)) = if bl ≤ (lie[k].2.1 : Int) - f then (f, true) else placeX D.cells.length bl (lie[k].2.1 + lie[k].2.2) ((lie.drop (k + 1)).map (·.2))) := by
        unfold Hid
        rw [HD.out.2, hdr, List.map_cons]
        conv => lhs; unfold placeX
      have HC := Lib.hid HD.out.1
      clear hdr HD
      generalize lie[k].1 = x0 at *
      generalize lie[k].2.1 = x1 at *
      generalize lie[k].2.2 = x2 at *
      have hw : IntKind.i64.wrap ((x1 : Int) - (f : Int)) = (x1 : Int) - f := by rw [IntKind.wrap_i64]; omega
      by_cases hfit : bl ≤ (x1 : Int) - f
      · go_wp2_with fail
        go_ret2
        rw [HP.out, if_pos hfit]
        exact ⟨rfl, HC.out.alloc _⟩
      · have hw2 : IntKind.i64.wrap ((x1 : Int) + (x2 : Int)) = ((x1 + x2 : Nat) : Int) := by rw [IntKind.wrap_i64]; omega
        have hfit2 : ¬ bl ≤ (x1 : Int) - f := hfit
        have HP2 : Hid (placeX D.cells.length bl 2 (lie.map (·.2)) = placeX D.cells.length bl (x1 + x2) ((lie.drop (k + 1)).map (·.2))) := by unfold Hid; rw [HP.out, if_neg hfit]
        clear HP hfit
        go_wp2_with fail
        go_roundw
        · exact ⟨k + 1, x1 + x2, by omega, by omega, by push_cast; rfl, by push_cast; rfl, HC.out.alloc _, HP2.out⟩
        · simp [intOf]; omega
    · obtain rfl : k = lie.length := by omega
      have hk2 : ¬ ((lie.length : Nat) : Int) < lie.length := by omega
      have HP : Hid (placeX D.cells.length bl 2 (lie.map (·.2)) = (f, decide (bl ≤ (D.cells.length : Int) - f))) := by
        unfold Hid
        rw [HD.out.2, List.drop_length]
        rfl
      have y0 := HY.out wr HD.out.1
      have HB2 := Lib.hid (HB.out wr HD.out.1)
      have hw : IntKind.i64.wrap ((D.cells.length : Int) - (f : Int)) = (D.cells.length : Int) - f := by rw [IntKind.wrap_i64]; omega
      have HC := Lib.hid HD.out.1
      go_wp2_with (go_at_call 33; (with_reducible refine HB2.out.mono ?_); rintro x wx ⟨rfl, rfl⟩)
      go_ret2
      rw [HP.out]
      exact ⟨rfl, HC.out⟩
end
end Go.Proofs.Ytjmapbhgjhlefaa
