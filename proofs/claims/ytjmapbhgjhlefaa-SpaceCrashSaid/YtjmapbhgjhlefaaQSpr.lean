/- The document's space in memory: Find, has, taken, place. -/
import Derived.Test.YtjmapbhgjhlefaaQ02
import Derived.Test.YtjmapbhgjhlefaaQ07
import Derived.Test.YtjmapbhgjhlefaaQ12
import Derived.Test.YtjmapbhgjhlefaaQ15
namespace Go.Proofs.Ytjmapbhgjhlefaa
open Go.RowKit
set_option linter.unusedVariables false
set_option maxRecDepth 100000

/-- A file of the document's space: its frames lie at fv. -/
structure Rf where
  num : Nat
  first : Nat
  blocks : Nat
  safe : Nat
  fv : Value
  fr : Rows_
def rfV (f : Rf) : List Value := [.int .i64 (f.num : Int), .int .i64 (f.first : Int), .int .i64 (f.blocks : Int), f.fv, .int .i64 (f.safe : Int)]
def rfLie (f : Rf) : Nat × Nat := (f.first, f.blocks)
/-- The space's own cells. -/
def RSp (r N : Nat) (v : Value) (fs : List Rf) : SP := Pt r 65 #[.int .i64 (N : Int), v] * Row 125 5 v fs.length (fs.flatMap rfV)
section
variable {w0 w : World} {F : SP} {r N : Nat} {v : Value} {fs : List Rf}
theorem rsp_d : RSp r N v fs * F = Pt r 65 #[.int .i64 (N : Int), v] * (Row 125 5 v fs.length (fs.flatMap rfV) * F) := star_assoc _ _ _
theorem rf_at {A : Option Addr} (h : RdV w A (fs.flatMap rfV)) {i : Nat} (hi : i < fs.length) : ∃ b o, A = some ⟨b, o, none⟩ ∧ w.cell? ⟨b, o + i * 5, none⟩ = some (.int .i64 (fs[i].num : Int)) ∧ w.cell? ⟨b, o + i * 5 + 1, none⟩ = some (.int .i64 (fs[i].first : Int)) ∧ w.cell? ⟨b, o + i * 5 + 2, none⟩ = some (.int .i64 (fs[i].blocks : Int)) ∧ w.cell? ⟨b, o + i * 5 + 3, none⟩ = some fs[i].fv ∧ w.cell? ⟨b, o + i * 5 + 4, none⟩ = some (.int .i64 (fs[i].safe : Int)) := by
  obtain ⟨b, o, e, hc⟩ := RdV.elem (f := rfV) (k := 5) (fun _ => rfl) (by decide) h hi
  exact ⟨b, o, e, hc 0 (by decide), hc 1 (by decide), hc 2 (by decide), hc 3 (by decide), hc 4 (by decide)⟩
theorem Sat.rsp_rd {A : Option Addr} {n c : Nat} (h : Sat w0 (RSp r N (.slice A n c) fs * F) w) : RdV w A (fs.flatMap rfV) := fun hx => by
  obtain ⟨g, rfl, hg⟩ := Sat.row_at (h := (h.of rsp_d).up2.of (show _ = Row 125 5 (.slice A n c) n (fs.flatMap rfV) * _ from by
    have hl : n = fs.length := by
      obtain ⟨A', c', e, _⟩ := Sat.row_sl (h := (h.of rsp_d).up2)
      injection e
    rw [hl])) (by
    obtain ⟨A', c', e, _⟩ := Sat.row_sl (h := (h.of rsp_d).up2)
    injection e with _ e _
    rcases fs with _ | ⟨f, fs⟩
    · exact absurd rfl hx
    · rw [e]; simp)
  exact ⟨g, 0, rfl, fun j hj => by rw [Nat.zero_add]; exact hg j hj⟩
theorem rfind_any (n : Int) (h : Sat w0 (RSp r N v fs * F) w) (hl : fs.length ≤ 1000000) :
    Calls Try.prog 42 #[.pointer (some ⟨r, 0, none⟩), .int .i64 n] w fun e w' => ∃ z : Int, e = .returned (.int .i64 z) ∧ w = w' ∧ (z = -1 ∧ (∀ f ∈ fs, (f.num : Int) ≠ n) ∨ ∃ i, ∃ hi : i < fs.length, z = (i : Int) ∧ (fs[i].num : Int) = n ∧ ∀ j (hj : j < fs.length), j < i → (fs[j].num : Int) ≠ n) := by
  obtain ⟨A, c, rfl, _⟩ := Sat.row_sl (h := (h.of rsp_d).up2)
  have HR := Lib.hid h.rsp_rd
  have p0 : w.cell? ⟨r, 1, none⟩ = some (.slice A fs.length c) := (h.of rsp_d).cell 1
  clear h
  go_enter Try.func42, Try.ntmps42
  go_wp2_with fail
  go_loop [5] (fun iv => ∃ i : Nat, i ≤ fs.length ∧ iv = .int .i64 (i : Int) ∧ Hid (∀ j (hj : j < fs.length), j < i → (fs[j].num : Int) ≠ n)) (fun iv => fs.length - (intOf iv).toNat)
  case atStart => exact ⟨0, by omega, rfl, fun j _ hj => absurd hj (by omega)⟩
  case round =>
    obtain ⟨i, hi, rfl, HN⟩ := hrel
    by_cases hlt : i < fs.length
    · obtain ⟨b, o, rfl, q0, _⟩ := rf_at HR.out hlt
      have hli : (i : Int) < fs.length := by omega
      by_cases he : (fs[i].num : Int) = n
      · have HE := Lib.hid he
        clear he
        rw [HE.out] at q0
        go_wp2_with fail
        go_ret
        exact ⟨_, rfl, rfl, .inr ⟨i, rfl, ⟨hlt, HE.out⟩, fun j hj h => HN.out j hj h⟩⟩
      · have HE := Lib.hid he
        go_wp2_with fail
        go_round
        case rel =>
          refine ⟨i + 1, by omega, by go_num, fun j hj hji => ?_⟩
          by_cases e : j = i
          · subst e; exact HE.out
          · exact HN.out j hj (by omega)
        case measure => simp [intOf]; omega
    · go_wp2_with fail
      go_ret
      refine ⟨_, rfl, rfl, .inl ⟨rfl, fun f hf => ?_⟩⟩
      obtain ⟨j, hj, rfl⟩ := List.mem_iff_getElem.1 hf
      exact HN.out j hj (by omega)
theorem rhas_any (A : Option Addr) (c : Nat) (l : List Int) (n : Int) (w : World) (h : RdV w A (l.map fun x => .int .i64 x)) (hl : l.length ≤ 1000000) :
    Calls Try.prog 75 #[.slice A l.length c, .int .i64 n] w fun e w' => e = .returned (.bool (decide (n ∈ l))) ∧ w = w' := by
  have HR := Lib.hid h
  clear h
  go_enter Try.func75, Try.ntmps75
  go_wp2_with fail
  go_loop [5] (fun iv => ∃ i : Nat, i ≤ l.length ∧ iv = .int .i64 (i : Int) ∧ Hid (∀ j (hj : j < l.length), j < i → l[j] ≠ n)) (fun iv => l.length - (intOf iv).toNat)
  case atStart => exact ⟨0, by omega, rfl, fun j _ hj => absurd hj (by omega)⟩
  case round =>
    obtain ⟨i, hi, rfl, HN⟩ := hrel
    by_cases hlt : i < l.length
    · obtain ⟨b, o, rfl, hc⟩ := HR.out (by intro e; have := congrArg List.length e; simp at this; rw [this] at hlt; simp at hlt)
      have q0 : w.cell? ⟨b, o + i, none⟩ = some (.int .i64 l[i]) := by
        have := hc i (by simpa using hlt)
        rw [this]; simp
      clear hc
      have hli : (i : Int) < l.length := by omega
      by_cases he : l[i] = n
      · have HE := Lib.hid he
        clear he
        rw [HE.out] at q0
        go_wp2_with fail
        go_ret
        refine ⟨?_, rfl⟩
        have h2 : decide (n ∈ l) = true := decide_eq_true (by rw [← HE.out]; exact List.getElem_mem hlt)
        rw [h2]
        rfl
      · have HE := Lib.hid he
        go_wp2_with fail
        go_round
        case rel =>
          refine ⟨i + 1, by omega, by go_num, fun j hj hji => ?_⟩
          by_cases e : j = i
          · subst e; exact HE.out
          · exact HN.out j hj (by omega)
        case measure => simp [intOf]; omega
    · go_wp2_with fail
      go_ret
      refine ⟨?_, rfl⟩
      have h2 : decide (n ∈ l) = false := decide_eq_false fun hm => by
        obtain ⟨j, hj, e⟩ := List.mem_iff_getElem.1 hm
        exact HN.out j hj (by omega) e
      rw [h2]
      rfl
end
end Go.Proofs.Ytjmapbhgjhlefaa
