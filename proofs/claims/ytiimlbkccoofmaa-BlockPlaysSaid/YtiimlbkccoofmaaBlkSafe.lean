/- tidingslaw02.BlockSafe -/
import Derived.Test.YtiimlbkccoofmaaBlkEnds
import Derived.Test.YtiimlbkccoofmaaWithin
import Derived.Test.YtiimlbkccoofmaaOpen2
namespace Go.Proofs.Ytiimlbkccoofmaa
open Go.RowKit
set_option linter.unusedVariables false

def fw (v : Int) (k : Nat) : List UInt8 := fill (wrap64 (v + k))
structure SafeOk (v : Int) (D : Dk) : Prop where
  len : D.cells.length = 8
  safe : ∀ k, k < 4 → D.cells[k]? = some (fw v k, false)
  far : ∀ p ∈ D.pend, 4 ≤ p.1
theorem SafeOk.write {v : Int} {D : Dk} (h : SafeOk v D) {p : Int} (hp : 4 ≤ p ∧ p ≤ 7) {b : List UInt8} (hb : b.length = 512) :
    ∃ D' r, D.write p b = (D', r) ∧ SafeOk v D' ∧ D'.pend.length ≤ D.pend.length + 1 ∧ D'.writes ≤ D.writes + 1 ∧ D'.armed ≤ D.armed := by
  unfold Dk.write
  by_cases ha : D.ask p = 0
  · rw [if_pos ha, if_pos hb]
    refine ⟨_, _, rfl, ⟨h.len, h.safe, fun q hq => ?_⟩, ?_, Nat.le_refl _, Nat.sub_le _ _⟩
    · rcases List.mem_append.1 hq with hq | hq
      · exact h.far q hq
      · simp at hq; subst hq; show 4 ≤ p.toNat; omega
    · show (D.pend ++ [_]).length ≤ _; simp
  · rw [if_neg ha]
    exact ⟨_, _, rfl, h, by omega, by omega, Nat.le_refl _⟩
theorem onStep_far (keep : List Bool) (torn bytes : Int) (cells : List (List UInt8 × Bool)) (x : (Nat × List UInt8) × Nat) (k : Nat) (hx : k ≠ x.1.1) : (onStep keep torn bytes cells x)[k]? = cells[k]? ∧ (onStep keep torn bytes cells x).length = cells.length := by
  unfold onStep lay
  split
  · exact ⟨List.getElem?_set_ne (fun e => hx e.symm), List.length_set ..⟩
  · split
    · exact ⟨List.getElem?_set_ne (fun e => hx e.symm), List.length_set ..⟩
    · exact ⟨rfl, rfl⟩
theorem on_far (keep : List Bool) (torn bytes : Int) (k : Nat) : ∀ (xs : List ((Nat × List UInt8) × Nat)) (cells : List (List UInt8 × Bool)), (∀ x ∈ xs, k ≠ x.1.1) → (xs.foldl (onStep keep torn bytes) cells)[k]? = cells[k]?
  | [], _, _ => rfl
  | x :: xs, cells, h => by
    rw [List.foldl_cons, on_far keep torn bytes k xs _ (fun y hy => h y (List.mem_cons_of_mem _ hy))]
    exact (onStep_far keep torn bytes cells x k (h x (List.mem_cons_self ..))).1
theorem onStep_len (keep : List Bool) (torn bytes : Int) (cells : List (List UInt8 × Bool)) (x : (Nat × List UInt8) × Nat) : (onStep keep torn bytes cells x).length = cells.length := by
  unfold onStep lay
  split
  · exact List.length_set ..
  · split
    · exact List.length_set ..
    · rfl
theorem on_len (keep : List Bool) (torn bytes : Int) : ∀ (xs : List ((Nat × List UInt8) × Nat)) (cells : List (List UInt8 × Bool)), (xs.foldl (onStep keep torn bytes) cells).length = cells.length
  | [], _ => rfl
  | x :: xs, cells => by rw [List.foldl_cons, on_len keep torn bytes xs, onStep_len]
theorem SafeOk.on {v : Int} {D : Dk} (h : SafeOk v D) (ho : D.off = true) (keep : List Bool) (torn bytes : Int) :
    SafeOk v (D.on keep torn bytes) ∧ (D.on keep torn bytes).pend = [] ∧ (D.on keep torn bytes).writes = D.writes ∧ (D.on keep torn bytes).armed = 0 ∧ (D.on keep torn bytes).off = false := by
  unfold Dk.on
  rw [if_pos ho]
  refine ⟨⟨(on_len ..).trans h.len, fun k hk => ?_, by simp⟩, rfl, rfl, rfl, rfl⟩
  refine (on_far keep torn bytes k _ _ fun x hx => ?_).trans (h.safe k hk)
  obtain ⟨⟨a, b⟩, i⟩ := x
  have := h.far (a, b) (by have := List.mem_zipIdx hx; obtain ⟨_, _, e⟩ := this; rw [e]; exact List.getElem_mem _)
  show k ≠ a
  have : 4 ≤ a := this
  omega
theorem SafeOk.read {v : Int} {D : Dk} (h : SafeOk v D) (ho : D.off = false) (hp : D.pend = []) {k : Nat} (hk : k < 4) : D.read k = (fw v k, 0) := by
  have ha : D.ask k = 0 := Dk.ask_ok ho (by omega) (by rw [h.len]; omega)
  have hl : D.last k = none := by unfold Dk.last; rw [hp]; rfl
  unfold Dk.read
  rw [if_pos ha, hl, Int.toNat_natCast, h.safe k hk]
  show (if false = true then _ else if fw v k = [] then _ else _) = _
  rw [if_neg (by decide), if_neg (show ¬ fw v k = [] from fill_ne _)]
/-- The disk while it is laid. -/
def sd (v : Int) (i : Nat) : Dk := ⟨List.replicate 8 ([], false), (List.range i).map fun j => (j, fw v j), 0, i, false⟩
theorem sd_write (v : Int) (i : Nat) (hi : i < 4) : (sd v i).write i (fw v i) = (sd v (i + 1), 0) := by
  have ha : (sd v i).ask i = 0 := Dk.ask_ok rfl (by omega) (by show (i : Int) < (List.replicate 8 ([], false)).length; rw [List.length_replicate]; omega)
  unfold Dk.write
  rw [if_pos ha, if_pos (show (fw v i).length = 512 from length_fill _)]
  show (Dk.mk _ ((List.range i).map _ ++ [_]) _ _ _, _) = (Dk.mk _ ((List.range (i + 1)).map _) _ _ _, _)
  rw [List.range_succ, List.map_append]
  rfl
def sd4 (v : Int) : Dk := ⟨[(fw v 0, false), (fw v 1, false), (fw v 2, false), (fw v 3, false), ([], false), ([], false), ([], false), ([], false)], [], 0, 4, false⟩
theorem flush4 (a b c d : List UInt8) : (Dk.mk (List.replicate 8 ([], false)) [(0, a), (1, b), (2, c), (3, d)] 0 4 false).flush = (Dk.mk [(a, false), (b, false), (c, false), (d, false), ([], false), ([], false), ([], false), ([], false)] [] 0 4 false, 0) := rfl
theorem sd_flush (v : Int) : (sd v 4).flush = (sd4 v, 0) := flush4 _ _ _ _
theorem sd4_ok (v : Int) : SafeOk v (sd4 v) := by
  refine ⟨rfl, fun k hk => ?_, by simp [sd4]⟩
  match k, hk with
  | 0, _ => rfl
  | 1, _ => rfl
  | 2, _ => rfl
  | 3, _ => rfl
theorem on_four {w0 w : World} {F : SP} {d : Nat} {D : Dk} (h : Sat w0 (Disk d D * F) w) (b0 b1 b2 b3 : Bool) (torn bytes : Int) (hw2 : D.pend.length ≤ 1000000000) :
    Calls Try.prog 16 #[.pointer (some ⟨d, 0, none⟩), .slice (some ⟨w.heap.size, 0, none⟩) 4 4, .int .i64 torn, .int .i64 bytes] (w.alloc (.cells #[.bool b0, .bool b1, .bool b2, .bool b3] 4)) fun e w' => e = .returned (.tuple #[]) ∧ Sat w0 (Disk d (D.on [b0, b1, b2, b3] torn bytes) * F) w' := by
  have h1 := (h.allocPt 4 #[.bool b0, .bool b1, .bool b2, .bool b3]).give (o := 0) (xs := [b0, b1, b2, b3].map Value.bool) (fun j hj => by
    match j, hj with
    | 0, _ => rfl
    | 1, _ => rfl
    | 2, _ => rfl
    | 3, _ => rfl)
  refine (on_any d D (some ⟨w.heap.size, 0, none⟩) 4 [b0, b1, b2, b3] torn bytes w0 _ F h1.up2 hw2 (by simp)).mono ?_
  rintro e w' ⟨rfl, hs⟩
  exact ⟨rfl, hs.drop2⟩
structure SafeAt (v : Int) (j : Nat) (D : Dk) : Prop where
  ok : SafeOk v D
  pend : D.pend = []
  off : D.off = false
  armed : D.armed = 0
  writes : D.writes ≤ 4 + 5 * j
structure SafeIn (v : Int) (j k : Nat) (D : Dk) : Prop where
  ok : SafeOk v D
  pend : D.pend.length ≤ k
  armed : D.armed ≤ 7
  writes : D.writes ≤ 4 + 5 * j + k
set_option maxRecDepth 100000 in
set_option maxHeartbeats 8000000 in
theorem blockSafe_walk (v : Int) (A : Option Addr) (c : Nat) (ks : List (Int × Int × Int)) (w : World) (hv : -9223372036854775808 ≤ v ∧ v ≤ 9223372036854775807)
    (hp : ks.length ≤ c ∧ c ≤ maxLen ∧ RdV w A (ks.flatMap v3) ∧ ks.length * 24 ≤ 140737488351232 ∧ ∀ y ∈ ks, isI64 y.1 ∧ isI64 y.2.1 ∧ isI64 y.2.2) :
    Calls Try.prog 3 #[.int .i64 v, .slice A ks.length c] w (Asked true w) := by
  have HR := Lib.hid hp.2.2.1
  have hl : ks.length ≤ 5864062014634 := by have := hp.2.2.2.1; omega
  clear hp hv
  go_enter Try.func3, Try.ntmps3
  go_wp2_with fail
  refine (new_yes 8 (by omega) w w _ (Sat.start w)).mono ?_
  rintro e w3 ⟨d, rfl, hs⟩
  have HS3 := Lib.hid hs
  clear hs
  go_wp2_with (first
    | (go_at_call 9; refine (num_any _ _).mono ?_; rintro e w' ⟨rfl, rfl⟩)
    | (go_at_call 10; refine (wakes_any w w3 _ HS3.out).mono ?_; rintro e w4 ⟨rfl, hs4⟩; have HS4 := Lib.hid hs4; clear hs4))
  go_loopw [7] (fun i wr => ∃ j : Nat, j ≤ 4 ∧ i = .int .i64 j ∧ Hid (Sat w (Disk d (sd v j) * Emp) wr)) (fun i _ => 4 - (intOf i).toNat)
  case atStart => exact ⟨0, by omega, rfl, HS4.out⟩
  case round =>
    obtain ⟨j, hj, rfl, HD⟩ := hrel
    by_cases hlt : j < 4
    · have hlt' : (j : Int) < 4 := by omega
      go_wp2_with fail
      refine (fill_any _ w wr _ HD.out).mono ?_
      rintro e w6 ⟨A6, c6, rfl, hs⟩
      have HS6 := Lib.hid (show Sat w (Disk d (sd v j) * (Rb A6 (fw v j) * Emp)) w6 from hs.rowGive)
      clear hs
      go_wp2_with fail
      refine (write_at HS6.out HS6.out.up2.rd (length_fill _) (sd_write v j hlt) (by decide) (by show j ≤ _; omega) (by show ((List.range j).map _).length ≤ _; simp; omega) (by show (0 : Nat) ≤ _; omega)).mono ?_
      rintro e w7 ⟨rfl, hs⟩
      have HS7 := Lib.hid hs.drop2
      clear hs
      go_wp2_with fail
      go_roundw
      case rel => exact ⟨j + 1, by omega, by go_num, HS7.out⟩
      case measure => simp [intOf]; omega
    · obtain rfl : j = 4 := by omega
      go_wp2_with fail
      refine (flush_at HD.out (sd_flush v) (by show 4 ≤ _; omega)).mono ?_
      rintro e w5 ⟨rfl, hs⟩
      have HS5 := Lib.hid hs
      clear hs
      go_wp2_with (go_at_call 9; refine (num_any _ _).mono ?_; rintro e w' ⟨rfl, rfl⟩)
      go_loopw [8] (fun i wr => ∃ j : Nat, j ≤ ks.length ∧ j ≤ 40 ∧ i = .int .i64 j ∧ Hid (∃ D, SafeAt v j D ∧ Sat w (Disk d D * Emp) wr)) (fun i _ => ks.length - (intOf i).toNat)
      case atStart => exact ⟨0, by omega, by omega, rfl, _, ⟨sd4_ok v, rfl, rfl, rfl, Nat.le_refl _⟩, HS5.out⟩
      case round =>
        obtain ⟨j, hj, hj6, rfl, HD0⟩ := hrel
        obtain ⟨D, hok, hsat⟩ := HD0.out
        by_cases hlt : j < ks.length ∧ j < 40
        · obtain ⟨hlt, hj60⟩ := hlt
          obtain ⟨b, o, rfl, hcell⟩ := (HR.out.new hsat.chg).elem (k := 3) (fun _ => rfl) (by decide) hlt
          have q0 := hcell 0 (by decide)
          have q1 := hcell 1 (by decide)
          have q2 := hcell 2 (by decide)
          have hj40 : (j : Int) < 40 := by omega
          have HD := Lib.hid hsat
          have HO := Lib.hid hok
          clear hok hsat HD0 hcell
          generalize ks[j] = x at *
          obtain ⟨x0, x1, x2⟩ := x
          simp only [v3, List.getElem?_cons_zero, List.getElem?_cons_succ, Nat.add_zero, ← Nat.add_assoc] at q0 q1 q2
          go_upto_region 14 with fail
          have h2 := HD.out.allocPt 33 #[.int .i64 x0, .int .i64 x1, .int .i64 x2]
          obtain ⟨w2, hw2⟩ : ∃ w2, w2 = wr.alloc (.cells #[.int .i64 x0, .int .i64 x1, .int .i64 x2] 33) := ⟨_, rfl⟩
          obtain ⟨T, hT⟩ : ∃ T, T = wr.heap.size := ⟨_, rfl⟩
          rw [← hw2, ← hT] at h2
          rw [← hw2, ← hT]
          have HS2 := Lib.hid h2.up2
          clear hw2 hT h2 q0 q1 q2
          obtain ⟨m0, hm0⟩ : ∃ m, bits .and .i64 x0 7 = m := ⟨_, rfl⟩
          have hm1 : 0 ≤ m0 ∧ m0 ≤ 7 := by rw [← hm0]; exact i64_and_le x0 7 (by omega)
          have q0 := HS2.out.up2.cell 0
          go_wp2_with fail
          clear hm0
          refine (arm_any d _ m0 w w2 _ HS2.out).mono ?_
          rintro e w3 ⟨rfl, hs⟩
          have HS3 := Lib.hid hs
          have HO3 : Hid (SafeIn v j 0 { D with armed := m0.toNat }) := ⟨⟨HO.out.ok.len, HO.out.ok.safe, HO.out.ok.far⟩, by show D.pend.length ≤ 0; rw [HO.out.pend]; exact Nat.le_refl _, by show m0.toNat ≤ 7; omega, HO.out.writes⟩
          clear hs q0
          go_wp2_with fail
          go_loopw [10] (fun i wr => ∃ k : Nat, k ≤ 5 ∧ i = .int .i64 k ∧ Hid (∃ D, SafeIn v j k D ∧ Sat w (Disk d D * (Pt T 33 #[.int .i64 x0, .int .i64 x1, .int .i64 x2] * Emp)) wr)) (fun i _ => 5 - (intOf i).toNat)
          case atStart => exact ⟨0, by omega, rfl, _, HO3.out, HS3.out⟩
          case round =>
            obtain ⟨k, hk, rfl, HD0⟩ := hrel
            obtain ⟨D1, hok, hsat⟩ := HD0.out
            by_cases hlt5 : k < 5
            · have hlt5' : (k : Int) < 5 := by omega
              have q1 := hsat.up2.cell 1
              have q2 := hsat.up2.cell 2
              have HS4 := Lib.hid hsat
              have HO4 := Lib.hid hok
              clear hok hsat HD0
              go_upto_region 18 with fail
              obtain ⟨m3, hm3⟩ : ∃ m, bits .and .i64 (IntKind.i64.wrap (x1 + k)) 3 = m := ⟨_, rfl⟩
              have hm4 : 0 ≤ m3 ∧ m3 ≤ 3 := by rw [← hm3]; exact i64_and_le _ 3 (by omega)
              have hm5 : IntKind.i64.wrap (4 + m3) = 4 + m3 := by rw [IntKind.wrap_i64]; omega
              have HB : Hid (D1.writes ≤ 1000000000 ∧ D1.pend.length ≤ 1000000000 ∧ D1.armed ≤ 9223372036854775807) := by
                have h1 := HO4.out.writes
                have h2 := HO4.out.pend
                have h3 := HO4.out.armed
                unfold Hid
                omega
              obtain ⟨D2, r2, hW, hok2, hp2, hw2, ha2⟩ := HO4.out.ok.write (p := 4 + m3) (by omega) (length_fill (IntKind.i64.wrap (x2 + k)))
              have HW := Lib.hid hW
              have HO5 : Hid (SafeIn v j (k + 1) D2) := ⟨hok2, by have := HO4.out.pend; omega, by have := HO4.out.armed; omega, by have := HO4.out.writes; omega⟩
              clear hW hok2 hp2 hw2 ha2 hm4
              go_region_held3 (fun w' => w'.cell? ⟨T, 1, none⟩ = some (.int .i64 x1) ∧ w'.cell? ⟨T, 2, none⟩ = some (.int .i64 x2)) (first | exact ⟨p1, p2⟩ | exact ⟨q3, q4⟩ | go_keep)
                (first
                  | (go_at_call 12; refine (fill_any _ w wr.drew _ HS4.out.drew).mono ?_; rintro e w6 ⟨A6, c6, rfl, hs⟩; have HS6 := Lib.hid (Sat.rowGive hs); clear hs; have q3 := HS6.out.up3.cell 1; have q4 := HS6.out.up3.cell 2)
                  | (go_at_call 11; refine (write_at HS6.out HS6.out.up2.rd (length_fill _) HW.out (by decide) HB.out.1 HB.out.2.1 HB.out.2.2).mono ?_; rintro e w7 ⟨rfl, hs⟩; have HS7 := Lib.hid hs.drop2; clear hs; have p1 := HS7.out.up2.cell 1; have p2 := HS7.out.up2.cell 2))
              go_wp2_with fail
              go_roundw
              case rel => exact ⟨k + 1, by omega, by go_num, _, HO5.out, HS7.out⟩
              case measure => simp [intOf]; omega
            · obtain rfl : k = 5 := by omega
              have HS4 := Lib.hid hsat
              have HO4 := Lib.hid hok
              clear hok hsat HD0
              go_wp2_with fail
              refine (cut_any d D1 w wr _ HS4.out).mono ?_
              rintro e w5 ⟨rfl, hs⟩
              have HS5' := Lib.hid hs
              have q1 := HS5'.out.up2.cell 1
              have q2 := HS5'.out.up2.cell 2
              have q3 := fun o => (HS5'.out.alloc' o).up2.cell 1
              have q4 := fun o => (HS5'.out.alloc' o).up2.cell 2
              clear hs
              obtain ⟨m5, hm5⟩ : ∃ m, bits .and .i64 x1 255 = m := ⟨_, rfl⟩
              have hm6 : 0 ≤ m5 ∧ m5 ≤ 255 := by rw [← hm5]; exact i64_and_le x1 255 (by omega)
              obtain ⟨hm7, hm8⟩ := hm6
              go_wp2_with fail
              refine (on_four HS5'.out _ _ _ _ _ _ (by have := HO4.out.pend; show D1.pend.length ≤ _; omega)).mono ?_
              rintro e w8 ⟨rfl, hs⟩
              generalize hkp : ([_, _, _, _] : List Bool) = kp at hs
              have h9 := (show SafeOk v { D1 with off := true } from ⟨HO4.out.ok.len, HO4.out.ok.safe, HO4.out.ok.far⟩).on rfl kp (bits .and .i64 x2 7) (1 + m5)
              generalize ({ D1 with off := true } : Dk).on kp (bits .and .i64 x2 7) (1 + m5) = D9 at *
              have HO9 : Hid (SafeAt v (j + 1) D9) := ⟨h9.1, h9.2.1, h9.2.2.2.2, h9.2.2.2.1, by rw [h9.2.2.1]; have := HO4.out.writes; show D1.writes ≤ _; omega⟩
              have HS9 := Lib.hid hs.drop2
              clear hs h9 hkp hm5 q1 q2 q3 q4
              go_wp2_with fail
              go_loopw [11] (fun i wr => ∃ k : Nat, k ≤ 4 ∧ i = .int .i64 k ∧ Hid (Sat w (Disk d D9 * Emp) wr)) (fun i _ => 4 - (intOf i).toNat)
              case atStart => exact ⟨0, by omega, rfl, HS9.out⟩
              case round =>
                obtain ⟨k, hk, rfl, HD⟩ := hrel
                by_cases hlt4 : k < 4
                · have hlt4' : (k : Int) < 4 := by omega
                  go_wp2_with fail
                  refine (read_at HD.out (HO9.out.ok.read HO9.out.off HO9.out.pend hlt4)).mono ?_
                  rintro e w10 ⟨A10, c10, rfl, hs⟩
                  have HS10 := Lib.hid hs.row_rb
                  have hl5 : (fw v k).length = 512 := length_fill _
                  rw [hl5]
                  clear hs hl5
                  go_wp2_with (go_at_call 9; refine (num_any _ _).mono ?_; rintro e w' ⟨rfl, rfl⟩)
                  refine (fill_any _ w w10 _ HS10.out).mono ?_
                  rintro e w11 ⟨A11, c11, rfl, hs⟩
                  have HS11 := Lib.hid (show Sat w (Rb A11 (fw v k) * (Rb A10 (fw v k) * (Disk d D9 * Emp))) w11 from hs.row_rb)
                  clear hs
                  go_wp2_with fail
                  refine (same_at HS11.out.right.rd HS11.out.rd (length_fill _) (length_fill _) (beq_self_eq_true _)).mono ?_
                  rintro e w' ⟨rfl, rfl⟩
                  go_wp2_with fail
                  go_roundw
                  case rel => exact ⟨k + 1, by omega, by go_num, HS11.out.right.right⟩
                  case measure => simp [intOf]; omega
                · obtain rfl : k = 4 := by omega
                  go_wp2_with fail
                  go_roundw
                  case rel => exact ⟨j + 1, by omega, by omega, by go_num, _, HO9.out, HD.out⟩
                  case measure => simp [intOf]; omega
        · by_cases hlt2 : j < ks.length
          · have hj60 : ¬ (j : Int) < 40 := by omega
            clear hlt
            go_wp2_with fail
            go_ret
            exact ⟨rfl, hsat.chg⟩
          · have hj60 : ¬ (j : Int) < ks.length := by omega
            clear hlt
            go_wp2_with fail
            go_ret
            exact ⟨rfl, hsat.chg⟩
end Go.Proofs.Ytiimlbkccoofmaa
