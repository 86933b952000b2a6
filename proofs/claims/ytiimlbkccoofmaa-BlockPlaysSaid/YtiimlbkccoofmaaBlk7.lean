/- The statements' Fill, Same, wakes. -/
import Derived.Test.YtiimlbkccoofmaaBlk6
namespace Go.Proofs.Ytiimlbkccoofmaa
open Go.RowKit
set_option linter.unusedVariables false

def fillB (v : Int) (i : Nat) : UInt8 := UInt8.ofNat ((v + i * i) % 256).toNat
def fill (v : Int) : List UInt8 := (List.range 512).map (fillB v)
theorem length_fill (v : Int) : (fill v).length = 512 := by simp [fill]
theorem fill_ne (v : Int) : fill v ≠ [] := fun h => by have := length_fill v; rw [h] at this; simp at this
theorem bv_fillB (v : Int) (i : Nat) : bv (fillB v i) = .int .u8 ((v + i * i) % 256) := by
  unfold bv fillB
  have h1 : 0 ≤ (v + i * i) % 256 := Int.emod_nonneg _ (by omega)
  have h2 : (v + i * i) % 256 < 256 := Int.emod_lt_of_pos _ (by omega)
  rw [UInt8.toNat_ofNat', Nat.mod_eq_of_lt (by omega)]
  congr 1
  omega
theorem size_noughts (n : Nat) : (noughts n).size = n := by simp [noughts]
def FillAt (w0 : World) (F : SP) (g : Nat) (v : Int) (k : Nat) (wr : World) : Prop := ∃ cur, Sat w0 (Pt g 5 cur * F) wr ∧ cur.size = 512 ∧ ∀ j, j < k → cur[j]? = some (bv (fillB v j))
def FillD (v : Int) (w0 : World) (F : SP) (e : Ending) (w' : World) : Prop := ∃ A c, e = .returned (.slice A 512 c) ∧ Sat w0 (Row 5 1 (.slice A 512 c) 512 ((fill v).map bv) * F) w'
theorem fill_any (v : Int) (w0 w : World) (F : SP) (h : Sat w0 F w) : Calls Try.prog 12 #[.int .i64 v] w (FillD v w0 F) := by
  have hmk := make_512
  have HS := Lib.hid (h.allocPt 5 (noughts 512))
  clear h
  go_enter Try.func12, Try.ntmps12
  go_wp2
  generalize w.heap.size = g at *
  go_loopw [4] (fun i wr => ∃ k : Nat, k ≤ 512 ∧ i = .int .i64 k ∧ Hid (FillAt w0 F g v k wr)) (fun i _ => 512 - (intOf i).toNat)
  case atStart => exact ⟨0, by omega, rfl, _, HS.out, size_noughts 512, fun j hj => by omega⟩
  case round =>
    obtain ⟨k, hk, rfl, HD⟩ := hrel
    by_cases hlt : k < 512
    · obtain ⟨cur, hcur, hsz, hpre⟩ := HD.out
      obtain ⟨x, hx⟩ : ∃ x, cur[k]? = some x := ⟨_, Array.getElem?_eq_getElem (by omega)⟩
      have hc : wr.cell? ⟨g, k, none⟩ = some x := by rw [hcur.cell, hx]
      have hfz := hcur.frozen k
      have HC := Lib.hid hcur
      have HS := Lib.hid hsz
      have HP := Lib.hid hpre
      have hk5 : (k : Int) < 512 := by omega
      clear hcur hsz hpre hx
      go_wp2_with fail
      go_roundw
      case rel =>
        refine ⟨k + 1, by omega, by go_num, _, HC.out.set k _, by simpa using HS.out, fun j hj => ?_⟩
        rw [Array.getElem?_setIfInBounds]
        by_cases e : k = j
        · subst e
          rw [if_pos rfl, if_pos (by have := HS.out; omega), bv_fillB]
          refine congrArg (fun z => some (Value.int .u8 z)) ?_
          simp only [wrap64]
          generalize (k : Int) * k = q
          omega
        · rw [if_neg e]
          exact HP.out j (by omega)
      case measure => simp [intOf]; omega
    · obtain rfl : k = 512 := by omega
      go_wp2_with fail
      go_ret
      obtain ⟨cur, hcur, hsz, hpre⟩ := HD.out
      have hcu : cur.toList.take (512 * 1) = (fill v).map bv := by
        rw [List.take_of_length_le (by simp [hsz])]
        apply List.ext_getElem?
        intro j
        by_cases hj : j < 512
        · rw [Array.getElem?_toList, hpre j hj]
          simp [fill, hj]
        · rw [List.getElem?_eq_none (by simp [hsz]; omega), List.getElem?_eq_none (by simp [length_fill]; omega)]
      refine ⟨some ⟨g, 0, none⟩, 512, rfl, ?_⟩
      rw [← hcu]
      exact hcur.row_pt (Nat.le_refl _) (by decide) (by simp [hsz])
end Go.Proofs.Ytiimlbkccoofmaa
