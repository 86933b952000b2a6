/- merge.first. (Written by gen_mrgf.py.) -/
import Derived.Test.YtaoenbjfkahdjaaQMrgM
namespace Go.Proofs.Ytaoenbjfkahdjaa
open Go.RowKit
set_option linter.unusedVariables false
set_option maxRecDepth 100000

/-- A row of entries where it lies. -/
abbrev RwE := Option Addr × Nat × List En
def rsv (r : RwE) : Value := .slice r.1 r.2.2.length r.2.1
def entR (r : RwE) : List Ent := r.2.2.map En.ent
/-- What may be read of rows. -/
structure RwsR (w : World) (Rs : List RwE) : Prop where
  rd : ∀ r ∈ Rs, RdV w r.1 (r.2.2.flatMap enV)
  ent : ∀ r ∈ Rs, EnsR w r.2.2
  cap : ∀ r ∈ Rs, r.2.2.length ≤ r.2.1 ∧ r.2.1 ≤ maxLen ∧ r.2.2.length ≤ 1000000
theorem RwsR.new {w w' : World} {Rs : List RwE} (h : RwsR w Rs) (k : Chg No w w') : RwsR w' Rs := ⟨fun r hr => (h.rd r hr).new k, fun r hr => (h.ent r hr).new k, h.cap⟩
def bestV (o : Option Nat) : Value := match o with | none => .int .i64 (-1) | some b => .int .i64 (b : Int)
set_option maxHeartbeats 4000000 in
theorem first_any (A : Option Addr) (c : Nat) (Rs : List RwE) (w : World) (h : RdV w A (Rs.map rsv)) (hr : RwsR w Rs) (hn : Rs.length ≤ 1000000) :
    Calls Try.prog 68 #[.slice A Rs.length c] w fun x w' => ∃ o, x = .returned (bestV o) ∧ BestAt (Rs.map entR) Rs.length o ∧ Chg No w w' := by
  have HL := Lib.hid h; have HR := Lib.hid hr
  clear h hr
  go_enter Try.func68, Try.ntmps68
  go_wp2_with fail
  go_loopw [3, 8] (fun bvv iv wr => ∃ (i : Nat) (o : Option Nat), i ≤ Rs.length ∧ iv = .int .i64 (i : Int) ∧ bvv = bestV o ∧ Hid (BestAt (Rs.map entR) i o ∧ Chg No w wr)) (fun _ iv _ => Rs.length - (intOf iv).toNat)
  case atStart => exact ⟨0, none, by omega, rfl, rfl, best_zero _, Chg.refl _ _⟩
  case round =>
    obtain ⟨i, o, hi, rfl, rfl, HD⟩ := hrel
    by_cases hlt : i < Rs.length
    · obtain ⟨lb, lo, rfl, hc⟩ := (HL.out.new HD.out.2).get (j := i) (by simpa using hlt)
      rw [List.getElem_map] at hc
      have HRi := Lib.hid ((HR.out.rd _ (List.getElem_mem hlt)).new HD.out.2)
      have HRe := Lib.hid (((HR.out.ent _ (List.getElem_mem hlt))).new HD.out.2)
      have HRa : Hid ((Rs.map entR)[i]? = some (entR Rs[i])) := by unfold Hid; rw [List.getElem?_map, List.getElem?_eq_getElem hlt]; rfl
      have hii : (i : Int) < Rs.length := by omega
      generalize Rs[i] = r at *
      obtain ⟨A1, c1, es⟩ := r
      unfold rsv at hc
      dsimp only at hc HRi HRe
      go_upto_region 5 with fail
      cases es with
      | nil =>
        have hgt : decide ((0 : Int) < (([] : List En).length : Int)) = false := rfl
        refine wp_region_held_drew (S := fun _ => True) (by kernel_rfl) trivial ?_
        intro hS0
        refine rgn_take (i := 0) (v := ?rv43) rfl (by kernel_rfl) (by kernel_rfl) (by kernel_rfl) (fun _ _ _ h => h) (by rfl) ?rh43 (by assumption) ?rr43
        case rh43 => (intro w hSw; (try dsimp only at hSw); go_simp; try with_reducible rfl)
        simp only [Act.put, List.setIfInBounds_toArray, List.set_cons_zero, List.set_cons_succ]
        refine rgn_take (i := 1) (v := ?rv44) rfl (by kernel_rfl) (by kernel_rfl) (by kernel_rfl) (fun _ _ _ h => h) (by rfl) ?rh44 (by assumption) ?rr44
        case rh44 => (intro w hSw; (try dsimp only at hSw); go_simp; try with_reducible rfl)
        simp only [Act.put, List.setIfInBounds_toArray, List.set_cons_zero, List.set_cons_succ]
        refine rgn_take (i := 2) (v := ?rv45) rfl (by kernel_rfl) (by kernel_rfl) (by kernel_rfl) (fun _ _ _ h => h) (by rfl) ?rh45 (by assumption) ?rr45
        case rh45 => (intro w hSw; (try dsimp only at hSw); go_simp; try with_reducible rfl)
        simp only [Act.put, List.setIfInBounds_toArray, List.set_cons_zero, List.set_cons_succ]
        try simp only [hgt]
        refine rgn_take (i := 3) (v := ?rv47) rfl (by kernel_rfl) (by kernel_rfl) (by kernel_rfl) (fun _ _ _ h => h) (by rfl) ?rh47 (by assumption) ?rr47
        case rh47 => (intro w hSw; (try dsimp only at hSw); go_simp; try with_reducible rfl)
        simp only [Act.put, List.setIfInBounds_toArray, List.set_cons_zero, List.set_cons_succ]
        refine rgn_skip (i := 4) rfl (by kernel_rfl) (by kernel_rfl) (by kernel_rfl) (fun _ _ _ h => h) (by rfl) (by assumption) ?_
        simp only [Act.put, List.setIfInBounds_toArray, List.set_cons_zero, List.set_cons_succ]
        refine rgn_skip (i := 5) rfl (by kernel_rfl) (by kernel_rfl) (by kernel_rfl) (fun _ _ _ h => h) (by rfl) (by assumption) ?_
        simp only [Act.put, List.setIfInBounds_toArray, List.set_cons_zero, List.set_cons_succ]
        refine rgn_skip (i := 6) rfl (by kernel_rfl) (by kernel_rfl) (by kernel_rfl) (fun _ _ _ h => h) (by rfl) (by assumption) ?_
        simp only [Act.put, List.setIfInBounds_toArray, List.set_cons_zero, List.set_cons_succ]
        refine rgn_skip (i := 7) rfl (by kernel_rfl) (by kernel_rfl) (by kernel_rfl) (fun _ _ _ h => h) (by rfl) (by assumption) ?_
        simp only [Act.put, List.setIfInBounds_toArray, List.set_cons_zero, List.set_cons_succ]
        refine rgn_skip (i := 8) rfl (by kernel_rfl) (by kernel_rfl) (by kernel_rfl) (fun _ _ _ h => h) (by rfl) (by assumption) ?_
        simp only [Act.put, List.setIfInBounds_toArray, List.set_cons_zero, List.set_cons_succ]
        refine rgn_skip (i := 9) rfl (by kernel_rfl) (by kernel_rfl) (by kernel_rfl) (fun _ _ _ h => h) (by rfl) (by assumption) ?_
        simp only [Act.put, List.setIfInBounds_toArray, List.set_cons_zero, List.set_cons_succ]
        refine rgn_skip (i := 10) rfl (by kernel_rfl) (by kernel_rfl) (by kernel_rfl) (fun _ _ _ h => h) (by rfl) (by assumption) ?_
        simp only [Act.put, List.setIfInBounds_toArray, List.set_cons_zero, List.set_cons_succ]
        refine rgn_skip (i := 11) rfl (by kernel_rfl) (by kernel_rfl) (by kernel_rfl) (fun _ _ _ h => h) (by rfl) (by assumption) ?_
        simp only [Act.put, List.setIfInBounds_toArray, List.set_cons_zero, List.set_cons_succ]
        refine rgn_skip (i := 12) rfl (by kernel_rfl) (by kernel_rfl) (by kernel_rfl) (fun _ _ _ h => h) (by rfl) (by assumption) ?_
        simp only [Act.put, List.setIfInBounds_toArray, List.set_cons_zero, List.set_cons_succ]
        refine rgn_skip (i := 13) rfl (by kernel_rfl) (by kernel_rfl) (by kernel_rfl) (fun _ _ _ h => h) (by rfl) (by assumption) ?_
        simp only [Act.put, List.setIfInBounds_toArray, List.set_cons_zero, List.set_cons_succ]
        refine rgn_skip (i := 14) rfl (by kernel_rfl) (by kernel_rfl) (by kernel_rfl) (fun _ _ _ h => h) (by rfl) (by assumption) ?_
        simp only [Act.put, List.setIfInBounds_toArray, List.set_cons_zero, List.set_cons_succ]
        refine rgn_skip (i := 15) rfl (by kernel_rfl) (by kernel_rfl) (by kernel_rfl) (fun _ _ _ h => h) (by rfl) (by assumption) ?_
        simp only [Act.put, List.setIfInBounds_toArray, List.set_cons_zero, List.set_cons_succ]
        refine rgn_skip (i := 16) rfl (by kernel_rfl) (by kernel_rfl) (by kernel_rfl) (fun _ _ _ h => h) (by rfl) (by assumption) ?_
        simp only [Act.put, List.setIfInBounds_toArray, List.set_cons_zero, List.set_cons_succ]
        refine rgn_skip (i := 17) rfl (by kernel_rfl) (by kernel_rfl) (by kernel_rfl) (fun _ _ _ h => h) (by rfl) (by assumption) ?_
        simp only [Act.put, List.setIfInBounds_toArray, List.set_cons_zero, List.set_cons_succ]
        refine rgn_take (i := 18) (v := ?rv62) rfl (by kernel_rfl) (by kernel_rfl) (by kernel_rfl) (fun _ _ _ h => h) (by rfl) ?rh62 (by assumption) ?rr62
        case rh62 => (intro w hSw; (try dsimp only at hSw); go_simp; try with_reducible rfl)
        simp only [Act.put, List.setIfInBounds_toArray, List.set_cons_zero, List.set_cons_succ]
        refine wpAnyH_done (by kernel_rfl) ?_ _
        go_wp2_with fail
        go_roundw
        · exact ⟨i + 1, o, by omega, by go_num, rfl, best_skip HD.out.1 HRa.out, HD.out.2.drew⟩
        · simp [intOf]; omega
      | cons x es =>
        obtain ⟨eb, eo, rfl, hq⟩ := ents_at HRi.out (by simp)
        obtain ⟨y0, y1, y2, y3⟩ := hq 0 (by simp)
        rw [Nat.zero_mul, Nat.add_zero] at y0 y1 y2 y3
        simp only [List.getElem_cons_zero] at y0 y1 y2 y3
        unfold slv' at y0 y1
        have hgt : decide ((0 : Int) < ((x :: es).length : Int)) = true := by rw [List.length_cons]; exact decide_eq_true (by omega)
        have HRx : Hid (Rd wr x.key.1 x.key.2.2 ∧ Rd wr x.value.1 x.value.2.2) := HRe.out x List.mem_cons_self
        have HHd : Hid ((Rs.map entR)[i]? = some (x.ent :: es.map En.ent)) := HRa.out
        cases o with
        | none =>
          have hneg : decide ((-1 : Int) < 0) = true := rfl
          unfold bestV
          dsimp only
          refine wp_region_held_drew (S := fun _ => True) (by kernel_rfl) trivial ?_
          intro hS0
          refine rgn_take (i := 0) (v := ?rv63) rfl (by kernel_rfl) (by kernel_rfl) (by kernel_rfl) (fun _ _ _ h => h) (by rfl) ?rh63 (by assumption) ?rr63
          case rh63 => (intro w hSw; (try dsimp only at hSw); go_simp; try with_reducible rfl)
          simp only [Act.put, List.setIfInBounds_toArray, List.set_cons_zero, List.set_cons_succ]
          refine rgn_take (i := 1) (v := ?rv64) rfl (by kernel_rfl) (by kernel_rfl) (by kernel_rfl) (fun _ _ _ h => h) (by rfl) ?rh64 (by assumption) ?rr64
          case rh64 => (intro w hSw; (try dsimp only at hSw); go_simp; try with_reducible rfl)
          simp only [Act.put, List.setIfInBounds_toArray, List.set_cons_zero, List.set_cons_succ]
          refine rgn_take (i := 2) (v := ?rv65) rfl (by kernel_rfl) (by kernel_rfl) (by kernel_rfl) (fun _ _ _ h => h) (by rfl) ?rh65 (by assumption) ?rr65
          case rh65 => (intro w hSw; (try dsimp only at hSw); go_simp; try with_reducible rfl)
          simp only [Act.put, List.setIfInBounds_toArray, List.set_cons_zero, List.set_cons_succ]
          try simp only [hgt]
          refine rgn_take (i := 3) (v := ?rv67) rfl (by kernel_rfl) (by kernel_rfl) (by kernel_rfl) (fun _ _ _ h => h) (by rfl) ?rh67 (by assumption) ?rr67
          case rh67 => (intro w hSw; (try dsimp only at hSw); go_simp; try with_reducible rfl)
          simp only [Act.put, List.setIfInBounds_toArray, List.set_cons_zero, List.set_cons_succ]
          refine rgn_take (i := 4) (v := ?rv68) rfl (by kernel_rfl) (by kernel_rfl) (by kernel_rfl) (fun _ _ _ h => h) (by rfl) ?rh68 (by assumption) ?rr68
          case rh68 => (intro w hSw; (try dsimp only at hSw); go_simp; try with_reducible rfl)
          simp only [Act.put, List.setIfInBounds_toArray, List.set_cons_zero, List.set_cons_succ]
          refine rgn_take (i := 5) (v := ?rv69) rfl (by kernel_rfl) (by kernel_rfl) (by kernel_rfl) (fun _ _ _ h => h) (by rfl) ?rh69 (by assumption) ?rr69
          case rh69 => (intro w hSw; (try dsimp only at hSw); go_simp; try with_reducible rfl)
          simp only [Act.put, List.setIfInBounds_toArray, List.set_cons_zero, List.set_cons_succ]
          try simp only [hneg]
          refine rgn_take (i := 6) (v := ?rv71) rfl (by kernel_rfl) (by kernel_rfl) (by kernel_rfl) (fun _ _ _ h => h) (by rfl) ?rh71 (by assumption) ?rr71
          case rh71 => (intro w hSw; (try dsimp only at hSw); go_simp; try with_reducible rfl)
          simp only [Act.put, List.setIfInBounds_toArray, List.set_cons_zero, List.set_cons_succ]
          refine rgn_skip (i := 7) rfl (by kernel_rfl) (by kernel_rfl) (by kernel_rfl) (fun _ _ _ h => h) (by rfl) (by assumption) ?_
          simp only [Act.put, List.setIfInBounds_toArray, List.set_cons_zero, List.set_cons_succ]
          refine rgn_skip (i := 8) rfl (by kernel_rfl) (by kernel_rfl) (by kernel_rfl) (fun _ _ _ h => h) (by rfl) (by assumption) ?_
          simp only [Act.put, List.setIfInBounds_toArray, List.set_cons_zero, List.set_cons_succ]
          refine rgn_skip (i := 9) rfl (by kernel_rfl) (by kernel_rfl) (by kernel_rfl) (fun _ _ _ h => h) (by rfl) (by assumption) ?_
          simp only [Act.put, List.setIfInBounds_toArray, List.set_cons_zero, List.set_cons_succ]
          refine rgn_skip (i := 10) rfl (by kernel_rfl) (by kernel_rfl) (by kernel_rfl) (fun _ _ _ h => h) (by rfl) (by assumption) ?_
          simp only [Act.put, List.setIfInBounds_toArray, List.set_cons_zero, List.set_cons_succ]
          refine rgn_skip (i := 11) rfl (by kernel_rfl) (by kernel_rfl) (by kernel_rfl) (fun _ _ _ h => h) (by rfl) (by assumption) ?_
          simp only [Act.put, List.setIfInBounds_toArray, List.set_cons_zero, List.set_cons_succ]
          refine rgn_skip (i := 12) rfl (by kernel_rfl) (by kernel_rfl) (by kernel_rfl) (fun _ _ _ h => h) (by rfl) (by assumption) ?_
          simp only [Act.put, List.setIfInBounds_toArray, List.set_cons_zero, List.set_cons_succ]
          refine rgn_skip (i := 13) rfl (by kernel_rfl) (by kernel_rfl) (by kernel_rfl) (fun _ _ _ h => h) (by rfl) (by assumption) ?_
          simp only [Act.put, List.setIfInBounds_toArray, List.set_cons_zero, List.set_cons_succ]
          refine rgn_skip (i := 14) rfl (by kernel_rfl) (by kernel_rfl) (by kernel_rfl) (fun _ _ _ h => h) (by rfl) (by assumption) ?_
          simp only [Act.put, List.setIfInBounds_toArray, List.set_cons_zero, List.set_cons_succ]
          refine rgn_skip (i := 15) rfl (by kernel_rfl) (by kernel_rfl) (by kernel_rfl) (fun _ _ _ h => h) (by rfl) (by assumption) ?_
          simp only [Act.put, List.setIfInBounds_toArray, List.set_cons_zero, List.set_cons_succ]
          refine rgn_skip (i := 16) rfl (by kernel_rfl) (by kernel_rfl) (by kernel_rfl) (fun _ _ _ h => h) (by rfl) (by assumption) ?_
          simp only [Act.put, List.setIfInBounds_toArray, List.set_cons_zero, List.set_cons_succ]
          refine rgn_take (i := 17) (v := ?rv82) rfl (by kernel_rfl) (by kernel_rfl) (by kernel_rfl) (fun _ _ _ h => h) (by rfl) ?rh82 (by assumption) ?rr82
          case rh82 => (intro w hSw; (try dsimp only at hSw); go_simp; try with_reducible rfl)
          simp only [Act.put, List.setIfInBounds_toArray, List.set_cons_zero, List.set_cons_succ]
          refine rgn_take (i := 18) (v := ?rv83) rfl (by kernel_rfl) (by kernel_rfl) (by kernel_rfl) (fun _ _ _ h => h) (by rfl) ?rh83 (by assumption) ?rr83
          case rh83 => (intro w hSw; (try dsimp only at hSw); go_simp; try with_reducible rfl)
          simp only [Act.put, List.setIfInBounds_toArray, List.set_cons_zero, List.set_cons_succ]
          refine wpAnyH_done (by kernel_rfl) ?_ _
          go_wp2_with fail
          go_roundw
          · exact ⟨i + 1, some i, by omega, by go_num, rfl, best_first HD.out.1 HHd.out, HD.out.2.drew⟩
          · simp [intOf]; omega
        | some b =>
          have hneg : decide ((b : Int) < 0) = false := decide_eq_false (by omega)
          have hbl : b < i := HD.out.1.1
          have hbR : b < Rs.length := by omega
          have hbi : (b : Int) < Rs.length := by omega
          have HB := HD.out.1
          obtain ⟨_, yE, U, hbs, _⟩ := HB
          have e1 : (Rs.map entR)[b]? = some (entR Rs[b]) := by rw [List.getElem?_map, List.getElem?_eq_getElem hbR]; rfl
          rw [e1] at hbs
          injection hbs with hbs
          obtain ⟨b', o', e, hcb⟩ := (HL.out.new HD.out.2).get (j := b) (by simpa using hbR)
          injection e with e
          injection e with e2 e3
          subst e2; subst e3
          rw [List.getElem_map] at hcb
          have HRj := Lib.hid ((HR.out.rd _ (List.getElem_mem hbR)).new HD.out.2)
          have HRf := Lib.hid (((HR.out.ent _ (List.getElem_mem hbR))).new HD.out.2)
          generalize Rs[b] = s at *
          obtain ⟨A2, fc, fs⟩ := s
          unfold rsv at hcb
          dsimp only at hcb HRj HRf
          cases fs with
          | nil => cases hbs
          | cons y fs =>
            obtain ⟨fb, fo, rfl, hq2⟩ := ents_at HRj.out (by simp)
            obtain ⟨z0, z1, z2, z3⟩ := hq2 0 (by simp)
            rw [Nat.zero_mul, Nat.add_zero] at z0 z1 z2 z3
            simp only [List.getElem_cons_zero] at z0 z1 z2 z3
            unfold slv' at z0 z1
            rw [List.length_cons] at hcb
            have HRy : Hid (Rd wr y.key.1 y.key.2.2 ∧ Rd wr y.value.1 y.value.2.2) := HRf.out y List.mem_cons_self
            have HBd : Hid ((Rs.map entR)[b]? = some (y.ent :: fs.map En.ent)) := e1
            obtain ⟨q, hq3⟩ : ∃ q, q = fs.length := ⟨_, rfl⟩
            rw [← hq3] at hcb
            have HS0 : Hid ((wr.drew.cell? ⟨eb, eo, none⟩ = some (.slice x.key.1 x.key.2.2.length x.key.2.1) ∧ wr.drew.cell? ⟨eb, eo + 1, none⟩ = some (.slice x.value.1 x.value.2.2.length x.value.2.1) ∧ wr.drew.cell? ⟨eb, eo + 2, none⟩ = some (.int .i64 x.seq) ∧ wr.drew.cell? ⟨eb, eo + 3, none⟩ = some (.bool x.dead)) ∧ wr.drew.cell? ⟨lb, lo + b, none⟩ = some (.slice (some ⟨fb, fo, none⟩) (q + 1) fc) ∧ (wr.drew.cell? ⟨fb, fo, none⟩ = some (.slice y.key.1 y.key.2.2.length y.key.2.1) ∧ wr.drew.cell? ⟨fb, fo + 1, none⟩ = some (.slice y.value.1 y.value.2.2.length y.value.2.1) ∧ wr.drew.cell? ⟨fb, fo + 2, none⟩ = some (.int .i64 y.seq) ∧ wr.drew.cell? ⟨fb, fo + 3, none⟩ = some (.bool y.dead))) := ⟨⟨y0, y1, y2, y3⟩, hcb, z0, z1, z2, z3⟩
            obtain ⟨Z, hZ⟩ : ∃ Z, lessE x.ent y.ent = Z := ⟨_, rfl⟩
            have HZ := Lib.hid hZ
            have HLe : Hid (Calls Try.prog 69 #[.agg #[.slice x.key.1 x.key.2.2.length x.key.2.1, .slice x.value.1 x.value.2.2.length x.value.2.1, .int .i64 x.seq, .bool x.dead], .agg #[.slice y.key.1 y.key.2.2.length y.key.2.1, .slice y.value.1 y.value.2.2.length y.value.2.1, .int .i64 y.seq, .bool y.dead]] wr.drew fun e w' => e = .returned (.bool Z) ∧ Chg No wr.drew w') := by
              have h9 := less_any x y wr.drew ⟨HRx.out.1.new (Chg.refl No wr).drew, HRx.out.2.new (Chg.refl No wr).drew⟩ ⟨HRy.out.1.new (Chg.refl No wr).drew, HRy.out.2.new (Chg.refl No wr).drew⟩
              rw [hZ] at h9
              exact h9
            have HSk : Hid (∀ W, Chg No wr.drew W → (W.cell? ⟨eb, eo, none⟩ = some (.slice x.key.1 x.key.2.2.length x.key.2.1) ∧ W.cell? ⟨eb, eo + 1, none⟩ = some (.slice x.value.1 x.value.2.2.length x.value.2.1) ∧ W.cell? ⟨eb, eo + 2, none⟩ = some (.int .i64 x.seq) ∧ W.cell? ⟨eb, eo + 3, none⟩ = some (.bool x.dead)) ∧ W.cell? ⟨lb, lo + b, none⟩ = some (.slice (some ⟨fb, fo, none⟩) (q + 1) fc) ∧ (W.cell? ⟨fb, fo, none⟩ = some (.slice y.key.1 y.key.2.2.length y.key.2.1) ∧ W.cell? ⟨fb, fo + 1, none⟩ = some (.slice y.value.1 y.value.2.2.length y.value.2.1) ∧ W.cell? ⟨fb, fo + 2, none⟩ = some (.int .i64 y.seq) ∧ W.cell? ⟨fb, fo + 3, none⟩ = some (.bool y.dead))) := fun W k => ⟨⟨k.cell HS0.out.1.1 id, k.cell HS0.out.1.2.1 id, k.cell HS0.out.1.2.2.1 id, k.cell HS0.out.1.2.2.2 id⟩, k.cell HS0.out.2.1 id, k.cell HS0.out.2.2.1 id, k.cell HS0.out.2.2.2.1 id, k.cell HS0.out.2.2.2.2.1 id, k.cell HS0.out.2.2.2.2.2 id⟩
            unfold bestV
            dsimp only
            clear hZ hq3 y0 y1 y2 y3 z0 z1 z2 z3 hq hq2 e1 hbs hcb
            cases Z
            ·
              refine wp_region_held_drew (S := fun w' => (w'.cell? ⟨eb, eo, none⟩ = some (.slice x.key.1 x.key.2.2.length x.key.2.1) ∧ w'.cell? ⟨eb, eo + 1, none⟩ = some (.slice x.value.1 x.value.2.2.length x.value.2.1) ∧ w'.cell? ⟨eb, eo + 2, none⟩ = some (.int .i64 x.seq) ∧ w'.cell? ⟨eb, eo + 3, none⟩ = some (.bool x.dead)) ∧ w'.cell? ⟨lb, lo + b, none⟩ = some (.slice (some ⟨fb, fo, none⟩) (q + 1) fc) ∧ (w'.cell? ⟨fb, fo, none⟩ = some (.slice y.key.1 y.key.2.2.length y.key.2.1) ∧ w'.cell? ⟨fb, fo + 1, none⟩ = some (.slice y.value.1 y.value.2.2.length y.value.2.1) ∧ w'.cell? ⟨fb, fo + 2, none⟩ = some (.int .i64 y.seq) ∧ w'.cell? ⟨fb, fo + 3, none⟩ = some (.bool y.dead))) (by kernel_rfl) HS0.out ?_
              intro hS0
              refine rgn_take (i := 0) (v := ?rv1) rfl (by kernel_rfl) (by kernel_rfl) (by kernel_rfl) (fun _ _ _ h => h) (by rfl) ?rh1 (by assumption) ?rr1
              case rh1 => (intro w hSw; (try dsimp only at hSw); go_simp; try with_reducible rfl)
              simp only [Act.put, List.setIfInBounds_toArray, List.set_cons_zero, List.set_cons_succ]
              refine rgn_take (i := 1) (v := ?rv2) rfl (by kernel_rfl) (by kernel_rfl) (by kernel_rfl) (fun _ _ _ h => h) (by rfl) ?rh2 (by assumption) ?rr2
              case rh2 => (intro w hSw; (try dsimp only at hSw); go_simp; try with_reducible rfl)
              simp only [Act.put, List.setIfInBounds_toArray, List.set_cons_zero, List.set_cons_succ]
              refine rgn_take (i := 2) (v := ?rv3) rfl (by kernel_rfl) (by kernel_rfl) (by kernel_rfl) (fun _ _ _ h => h) (by rfl) ?rh3 (by assumption) ?rr3
              case rh3 => (intro w hSw; (try dsimp only at hSw); go_simp; try with_reducible rfl)
              simp only [Act.put, List.setIfInBounds_toArray, List.set_cons_zero, List.set_cons_succ]
              try simp only [hgt]
              refine rgn_take (i := 3) (v := ?rv5) rfl (by kernel_rfl) (by kernel_rfl) (by kernel_rfl) (fun _ _ _ h => h) (by rfl) ?rh5 (by assumption) ?rr5
              case rh5 => (intro w hSw; (try dsimp only at hSw); go_simp; try with_reducible rfl)
              simp only [Act.put, List.setIfInBounds_toArray, List.set_cons_zero, List.set_cons_succ]
              refine rgn_take (i := 4) (v := ?rv6) rfl (by kernel_rfl) (by kernel_rfl) (by kernel_rfl) (fun _ _ _ h => h) (by rfl) ?rh6 (by assumption) ?rr6
              case rh6 => (intro w hSw; (try dsimp only at hSw); go_simp; try with_reducible rfl)
              simp only [Act.put, List.setIfInBounds_toArray, List.set_cons_zero, List.set_cons_succ]
              refine rgn_take (i := 5) (v := ?rv7) rfl (by kernel_rfl) (by kernel_rfl) (by kernel_rfl) (fun _ _ _ h => h) (by rfl) ?rh7 (by assumption) ?rr7
              case rh7 => (intro w hSw; (try dsimp only at hSw); go_simp; try with_reducible rfl)
              simp only [Act.put, List.setIfInBounds_toArray, List.set_cons_zero, List.set_cons_succ]
              try simp only [hneg]
              refine rgn_take (i := 6) (v := ?rv9) rfl (by kernel_rfl) (by kernel_rfl) (by kernel_rfl) (fun _ _ _ h => h) (by rfl) ?rh9 (by assumption) ?rr9
              case rh9 => (intro w hSw; (try dsimp only at hSw); go_simp; try with_reducible rfl)
              simp only [Act.put, List.setIfInBounds_toArray, List.set_cons_zero, List.set_cons_succ]
              refine rgn_take (i := 7) (v := ?rv10) rfl (by kernel_rfl) (by kernel_rfl) (by kernel_rfl) (fun _ _ _ h => h) (by rfl) ?rh10 (by assumption) ?rr10
              case rh10 => (intro w hSw; (try dsimp only at hSw); go_simp; try with_reducible rfl)
              simp only [Act.put, List.setIfInBounds_toArray, List.set_cons_zero, List.set_cons_succ]
              refine rgn_take (i := 8) (v := ?rv11) rfl (by kernel_rfl) (by kernel_rfl) (by kernel_rfl) (fun _ _ _ h => h) (by rfl) ?rh11 (by assumption) ?rr11
              case rh11 => (intro w hSw; (try dsimp only at hSw); go_simp; try with_reducible rfl)
              simp only [Act.put, List.setIfInBounds_toArray, List.set_cons_zero, List.set_cons_succ]
              refine rgn_take (i := 9) (v := ?rv12) rfl (by kernel_rfl) (by kernel_rfl) (by kernel_rfl) (fun _ _ _ h => h) (by rfl) ?rh12 (by assumption) ?rr12
              case rh12 => (intro w hSw; (try dsimp only at hSw); go_simp; try with_reducible rfl)
              simp only [Act.put, List.setIfInBounds_toArray, List.set_cons_zero, List.set_cons_succ]
              refine rgn_take (i := 10) (v := ?rv13) rfl (by kernel_rfl) (by kernel_rfl) (by kernel_rfl) (fun _ _ _ h => h) (by rfl) ?rh13 (by assumption) ?rr13
              case rh13 => (intro w hSw; (try dsimp only at hSw); go_simp; try with_reducible rfl)
              simp only [Act.put, List.setIfInBounds_toArray, List.set_cons_zero, List.set_cons_succ]
              refine rgn_take (i := 11) (v := ?rv14) rfl (by kernel_rfl) (by kernel_rfl) (by kernel_rfl) (fun _ _ _ h => h) (by rfl) ?rh14 (by assumption) ?rr14
              case rh14 => (intro w hSw; (try dsimp only at hSw); go_simp; try with_reducible rfl)
              simp only [Act.put, List.setIfInBounds_toArray, List.set_cons_zero, List.set_cons_succ]
              refine rgn_take (i := 12) (v := ?rv15) rfl (by kernel_rfl) (by kernel_rfl) (by kernel_rfl) (fun _ _ _ h => h) (by rfl) ?rh15 (by assumption) ?rr15
              case rh15 => (intro w hSw; (try dsimp only at hSw); go_simp; try with_reducible rfl)
              simp only [Act.put, List.setIfInBounds_toArray, List.set_cons_zero, List.set_cons_succ]
              refine rgn_take (i := 13) (v := ?rv16) rfl (by kernel_rfl) (by kernel_rfl) (by kernel_rfl) (fun _ _ _ h => h) (by rfl) ?rh16 (by assumption) ?rr16
              case rh16 => (intro w hSw; (try dsimp only at hSw); go_simp; try with_reducible rfl)
              simp only [Act.put, List.setIfInBounds_toArray, List.set_cons_zero, List.set_cons_succ]
              refine rgn_take (i := 14) (v := ?rv17) rfl (by kernel_rfl) (by kernel_rfl) (by kernel_rfl) (fun _ _ _ h => h) (by rfl) ?rh17 (by assumption) ?rr17
              case rh17 => (intro w hSw; (try dsimp only at hSw); go_simp; try with_reducible rfl)
              simp only [Act.put, List.setIfInBounds_toArray, List.set_cons_zero, List.set_cons_succ]
              refine rgn_take (i := 15) (v := ?rv18) rfl (by kernel_rfl) (by kernel_rfl) (by kernel_rfl) (fun _ _ _ h => h) (by rfl) ?rh18 (by assumption) ?rr18
              case rh18 => (intro w hSw; (try dsimp only at hSw); go_simp; try with_reducible rfl)
              simp only [Act.put, List.setIfInBounds_toArray, List.set_cons_zero, List.set_cons_succ]
              refine rgn_call (i := 16) rfl (by kernel_rfl) (fun K hK => ?_)
              go_simp
              go_at_call 69; (with_reducible refine HLe.out.mono ?_); rintro z w1 ⟨rfl, k1⟩; have HK := Lib.hid k1; clear k1
              refine hK.out _ _ (HSk.out _ HK.out) (fun hS0 => ?_)
              clear hK K
              refine rgn_take (i := 17) (v := ?rv20) rfl (by kernel_rfl) (by kernel_rfl) (by kernel_rfl) (fun _ _ _ h => h) (by rfl) ?rh20 (by assumption) ?rr20
              case rh20 => (intro w hSw; (try dsimp only at hSw); go_simp; try with_reducible rfl)
              simp only [Act.put, List.setIfInBounds_toArray, List.set_cons_zero, List.set_cons_succ]
              refine rgn_take (i := 18) (v := ?rv21) rfl (by kernel_rfl) (by kernel_rfl) (by kernel_rfl) (fun _ _ _ h => h) (by rfl) ?rh21 (by assumption) ?rr21
              case rh21 => (intro w hSw; (try dsimp only at hSw); go_simp; try with_reducible rfl)
              simp only [Act.put, List.setIfInBounds_toArray, List.set_cons_zero, List.set_cons_succ]
              refine wpAnyH_done (by kernel_rfl) ?_ _
              go_wp2_with fail
              go_roundw
              · exact ⟨i + 1, some b, by omega, by go_num, rfl, best_not HD.out.1 HBd.out HHd.out HZ.out, HD.out.2.drew.tr HK.out⟩
              · simp [intOf]; omega
            ·
              refine wp_region_held_drew (S := fun w' => (w'.cell? ⟨eb, eo, none⟩ = some (.slice x.key.1 x.key.2.2.length x.key.2.1) ∧ w'.cell? ⟨eb, eo + 1, none⟩ = some (.slice x.value.1 x.value.2.2.length x.value.2.1) ∧ w'.cell? ⟨eb, eo + 2, none⟩ = some (.int .i64 x.seq) ∧ w'.cell? ⟨eb, eo + 3, none⟩ = some (.bool x.dead)) ∧ w'.cell? ⟨lb, lo + b, none⟩ = some (.slice (some ⟨fb, fo, none⟩) (q + 1) fc) ∧ (w'.cell? ⟨fb, fo, none⟩ = some (.slice y.key.1 y.key.2.2.length y.key.2.1) ∧ w'.cell? ⟨fb, fo + 1, none⟩ = some (.slice y.value.1 y.value.2.2.length y.value.2.1) ∧ w'.cell? ⟨fb, fo + 2, none⟩ = some (.int .i64 y.seq) ∧ w'.cell? ⟨fb, fo + 3, none⟩ = some (.bool y.dead))) (by kernel_rfl) HS0.out ?_
              intro hS0
              refine rgn_take (i := 0) (v := ?rv22) rfl (by kernel_rfl) (by kernel_rfl) (by kernel_rfl) (fun _ _ _ h => h) (by rfl) ?rh22 (by assumption) ?rr22
              case rh22 => (intro w hSw; (try dsimp only at hSw); go_simp; try with_reducible rfl)
              simp only [Act.put, List.setIfInBounds_toArray, List.set_cons_zero, List.set_cons_succ]
              refine rgn_take (i := 1) (v := ?rv23) rfl (by kernel_rfl) (by kernel_rfl) (by kernel_rfl) (fun _ _ _ h => h) (by rfl) ?rh23 (by assumption) ?rr23
              case rh23 => (intro w hSw; (try dsimp only at hSw); go_simp; try with_reducible rfl)
              simp only [Act.put, List.setIfInBounds_toArray, List.set_cons_zero, List.set_cons_succ]
              refine rgn_take (i := 2) (v := ?rv24) rfl (by kernel_rfl) (by kernel_rfl) (by kernel_rfl) (fun _ _ _ h => h) (by rfl) ?rh24 (by assumption) ?rr24
              case rh24 => (intro w hSw; (try dsimp only at hSw); go_simp; try with_reducible rfl)
              simp only [Act.put, List.setIfInBounds_toArray, List.set_cons_zero, List.set_cons_succ]
              try simp only [hgt]
              refine rgn_take (i := 3) (v := ?rv26) rfl (by kernel_rfl) (by kernel_rfl) (by kernel_rfl) (fun _ _ _ h => h) (by rfl) ?rh26 (by assumption) ?rr26
              case rh26 => (intro w hSw; (try dsimp only at hSw); go_simp; try with_reducible rfl)
              simp only [Act.put, List.setIfInBounds_toArray, List.set_cons_zero, List.set_cons_succ]
              refine rgn_take (i := 4) (v := ?rv27) rfl (by kernel_rfl) (by kernel_rfl) (by kernel_rfl) (fun _ _ _ h => h) (by rfl) ?rh27 (by assumption) ?rr27
              case rh27 => (intro w hSw; (try dsimp only at hSw); go_simp; try with_reducible rfl)
              simp only [Act.put, List.setIfInBounds_toArray, List.set_cons_zero, List.set_cons_succ]
              refine rgn_take (i := 5) (v := ?rv28) rfl (by kernel_rfl) (by kernel_rfl) (by kernel_rfl) (fun _ _ _ h => h) (by rfl) ?rh28 (by assumption) ?rr28
              case rh28 => (intro w hSw; (try dsimp only at hSw); go_simp; try with_reducible rfl)
              simp only [Act.put, List.setIfInBounds_toArray, List.set_cons_zero, List.set_cons_succ]
              try simp only [hneg]
              refine rgn_take (i := 6) (v := ?rv30) rfl (by kernel_rfl) (by kernel_rfl) (by kernel_rfl) (fun _ _ _ h => h) (by rfl) ?rh30 (by assumption) ?rr30
              case rh30 => (intro w hSw; (try dsimp only at hSw); go_simp; try with_reducible rfl)
              simp only [Act.put, List.setIfInBounds_toArray, List.set_cons_zero, List.set_cons_succ]
              refine rgn_take (i := 7) (v := ?rv31) rfl (by kernel_rfl) (by kernel_rfl) (by kernel_rfl) (fun _ _ _ h => h) (by rfl) ?rh31 (by assumption) ?rr31
              case rh31 => (intro w hSw; (try dsimp only at hSw); go_simp; try with_reducible rfl)
              simp only [Act.put, List.setIfInBounds_toArray, List.set_cons_zero, List.set_cons_succ]
              refine rgn_take (i := 8) (v := ?rv32) rfl (by kernel_rfl) (by kernel_rfl) (by kernel_rfl) (fun _ _ _ h => h) (by rfl) ?rh32 (by assumption) ?rr32
              case rh32 => (intro w hSw; (try dsimp only at hSw); go_simp; try with_reducible rfl)
              simp only [Act.put, List.setIfInBounds_toArray, List.set_cons_zero, List.set_cons_succ]
              refine rgn_take (i := 9) (v := ?rv33) rfl (by kernel_rfl) (by kernel_rfl) (by kernel_rfl) (fun _ _ _ h => h) (by rfl) ?rh33 (by assumption) ?rr33
              case rh33 => (intro w hSw; (try dsimp only at hSw); go_simp; try with_reducible rfl)
              simp only [Act.put, List.setIfInBounds_toArray, List.set_cons_zero, List.set_cons_succ]
              refine rgn_take (i := 10) (v := ?rv34) rfl (by kernel_rfl) (by kernel_rfl) (by kernel_rfl) (fun _ _ _ h => h) (by rfl) ?rh34 (by assumption) ?rr34
              case rh34 => (intro w hSw; (try dsimp only at hSw); go_simp; try with_reducible rfl)
              simp only [Act.put, List.setIfInBounds_toArray, List.set_cons_zero, List.set_cons_succ]
              refine rgn_take (i := 11) (v := ?rv35) rfl (by kernel_rfl) (by kernel_rfl) (by kernel_rfl) (fun _ _ _ h => h) (by rfl) ?rh35 (by assumption) ?rr35
              case rh35 => (intro w hSw; (try dsimp only at hSw); go_simp; try with_reducible rfl)
              simp only [Act.put, List.setIfInBounds_toArray, List.set_cons_zero, List.set_cons_succ]
              refine rgn_take (i := 12) (v := ?rv36) rfl (by kernel_rfl) (by kernel_rfl) (by kernel_rfl) (fun _ _ _ h => h) (by rfl) ?rh36 (by assumption) ?rr36
              case rh36 => (intro w hSw; (try dsimp only at hSw); go_simp; try with_reducible rfl)
              simp only [Act.put, List.setIfInBounds_toArray, List.set_cons_zero, List.set_cons_succ]
              refine rgn_take (i := 13) (v := ?rv37) rfl (by kernel_rfl) (by kernel_rfl) (by kernel_rfl) (fun _ _ _ h => h) (by rfl) ?rh37 (by assumption) ?rr37
              case rh37 => (intro w hSw; (try dsimp only at hSw); go_simp; try with_reducible rfl)
              simp only [Act.put, List.setIfInBounds_toArray, List.set_cons_zero, List.set_cons_succ]
              refine rgn_take (i := 14) (v := ?rv38) rfl (by kernel_rfl) (by kernel_rfl) (by kernel_rfl) (fun _ _ _ h => h) (by rfl) ?rh38 (by assumption) ?rr38
              case rh38 => (intro w hSw; (try dsimp only at hSw); go_simp; try with_reducible rfl)
              simp only [Act.put, List.setIfInBounds_toArray, List.set_cons_zero, List.set_cons_succ]
              refine rgn_take (i := 15) (v := ?rv39) rfl (by kernel_rfl) (by kernel_rfl) (by kernel_rfl) (fun _ _ _ h => h) (by rfl) ?rh39 (by assumption) ?rr39
              case rh39 => (intro w hSw; (try dsimp only at hSw); go_simp; try with_reducible rfl)
              simp only [Act.put, List.setIfInBounds_toArray, List.set_cons_zero, List.set_cons_succ]
              refine rgn_call (i := 16) rfl (by kernel_rfl) (fun K hK => ?_)
              go_simp
              go_at_call 69; (with_reducible refine HLe.out.mono ?_); rintro z w1 ⟨rfl, k1⟩; have HK := Lib.hid k1; clear k1
              refine hK.out _ _ (HSk.out _ HK.out) (fun hS0 => ?_)
              clear hK K
              refine rgn_take (i := 17) (v := ?rv41) rfl (by kernel_rfl) (by kernel_rfl) (by kernel_rfl) (fun _ _ _ h => h) (by rfl) ?rh41 (by assumption) ?rr41
              case rh41 => (intro w hSw; (try dsimp only at hSw); go_simp; try with_reducible rfl)
              simp only [Act.put, List.setIfInBounds_toArray, List.set_cons_zero, List.set_cons_succ]
              refine rgn_take (i := 18) (v := ?rv42) rfl (by kernel_rfl) (by kernel_rfl) (by kernel_rfl) (fun _ _ _ h => h) (by rfl) ?rh42 (by assumption) ?rr42
              case rh42 => (intro w hSw; (try dsimp only at hSw); go_simp; try with_reducible rfl)
              simp only [Act.put, List.setIfInBounds_toArray, List.set_cons_zero, List.set_cons_succ]
              refine wpAnyH_done (by kernel_rfl) ?_ _
              go_wp2_with fail
              go_roundw
              · exact ⟨i + 1, some i, by omega, by go_num, rfl, best_less HD.out.1 HBd.out HHd.out HZ.out, HD.out.2.drew.tr HK.out⟩
              · simp [intOf]; omega
    · have hie : i = Rs.length := by omega
      subst hie
      go_wp2_with fail
      go_ret
      exact ⟨o, rfl, HD.out.1, HD.out.2⟩
end Go.Proofs.Ytaoenbjfkahdjaa
