/- tidingslaw06.wakes answers true; a filter of noughts has no key. -/
import Derived.Test.YtghgmecaebheoaaBloomMore
namespace Go.Proofs.Ytghgmecaebheoaa
open Go.RowKit
set_option linter.unusedVariables false

theorem hasBit_zero (n p : Nat) : hasBit (List.replicate n 0) p = false := by
  unfold hasBit
  have e : (List.replicate n (0 : UInt8)).getD (p / 8) 0 = 0 := by
    rw [List.getD_eq_getElem?_getD, List.getElem?_replicate]
    split <;> rfl
  rw [e]
  simp
theorem hasKey_zero (n : Nat) (key : List UInt8) : hasKey (List.replicate n 0) key = false := by simp [hasKey, goBit, hasBit_zero]

theorem wakes_any (w : World) : Calls Try.prog 11 #[] w (Asked true w) := by
  have kc := fun (w : World) (C : Array Value) (n c : Nat) => Lib.run_convert_bytes_const (P := Try.prog) w 34 5 C n c Try.underlying34 Try.underlying5
  go_enter Try.func11, Try.ntmps11
  go_wp2_with fail
  refine (new_yes 1 1 w (by omega)).mono ?_
  rintro e w1 ⟨g, h, rfl, h1, h2, h3, h4⟩
  have e8 : nbytes 1 1 = 8 := by decide
  rw [e8] at h1
  have H1 := Lib.hid h1
  have H4 := Lib.hid h4
  clear h1 h4 e8
  go_wp2_with (go_at_call 10; refine (num_any _ _).mono ?_; rintro e w2 ⟨rfl, rfl⟩)
  have hrd : ∀ W : World, Rd (W.alloc (.cells #[.int .u8 97] 5 (1, 2))) (some ⟨W.heap.size, 0, none⟩) [97] := fun W => RdV.lit W _ _ _
  have HR := Lib.hid hrd
  clear hrd
  refine (has_any g h 8 8 1 _ [97] _ _ (H1.out.new ((Chg.refl No w1).alloc _)) (by omega) (HR.out w1) (by simp)).mono ?_
  rintro e w2 ⟨rfl, h5⟩
  have H5 := Lib.hid (((Chg.refl No w1).alloc (.cells #[.int .u8 97] 5 (1, 2))).tr h5)
  clear h5
  rw [hasKey_zero]
  go_wp2_with fail
  have hrl : Stay (One h) ((w2.alloc (.cells #[.int .u8 97] 5 (1, 2))).alloc (.cells #[.slice (some ⟨w2.heap.size, 0, none⟩) 1 1] 34))
      (RdL · (some ⟨w2.heap.size + 1, 0, none⟩) [(some ⟨w2.heap.size, 0, none⟩, 1, [97])]) := by
    have hlt := (H1.out.new H5.out).lt.2
    intro W k
    have a1 := (HR.out w2).alloc (.cells #[.slice (some ⟨w2.heap.size, 0, none⟩) 1 1] 34)
    have a2 := RdV.lit (w2.alloc (.cells #[.int .u8 97] 5 (1, 2))) #[.slice (some ⟨w2.heap.size, 0, none⟩) 1 1] 34 (0, 0)
    refine ⟨?_, ?_⟩
    · have a3 := a2.chg k (fun b o _ e => by
        injection e with e
        injection e with e
        simp at e
        unfold One
        omega)
      simpa [slOf] using a3
    · intro x hx
      simp at hx
      subst hx
      exact a1.chg k (fun b o _ e => by
        injection e with e
        injection e with e
        unfold One
        omega)
  refine (add_any g h 8 8 1 _ _ [(some ⟨w2.heap.size, 0, none⟩, 1, [97])] _ ((H1.out.new H5.out).new (((Chg.refl No w2).alloc _).alloc _)) (by omega) hrl (by simp) (by simp)).mono ?_
  rintro e w3 ⟨rfl, h6, h7⟩
  have H6 := Lib.hid h6
  have H7 := Lib.hid ((((Chg.refl (One h) w2).alloc (.cells #[.int .u8 97] 5 (1, 2))).alloc (.cells #[.slice (some ⟨w2.heap.size, 0, none⟩) 1 1] 34)).tr h7)
  clear hrl h6 h7
  go_wp2_with fail
  refine (has_any g h 8 8 1 _ [97] _ _ (H6.out.new ((Chg.refl No w3).alloc _)) (by omega) (HR.out w3) (by simp)).mono ?_
  rintro e w4 ⟨rfl, h8⟩
  have H8 := Lib.hid (((Chg.refl No w3).alloc (.cells #[.int .u8 97] 5 (1, 2))).tr h8)
  clear h8
  rw [hasKey_addAll _ _ [97] (by simp [txt]) (by simp)]
  go_wp2_with fail
  refine (bytes_any g h 8 8 _ _ (H6.out.new H8.out) (by omega)).mono ?_
  rintro e w5 ⟨x, cap, cur, rfl, q1, q2, q3, q4, q5, q6, q7⟩
  have H9 := Lib.hid q7
  clear q2 q3 q5 q6 q7
  have hlen : (addAll (List.replicate 8 0) (txt [(some (⟨w2.heap.size, 0, none⟩ : Addr), 1, [97])])).length = 8 := by rw [length_addAll]; simp
  rw [hlen]
  clear hlen q4
  go_wp2
  go_ret
  exact ⟨rfl, (((H4.out.tr H5.out).own H7.out (fun i hi => by cases hi; exact h3)).tr H8.out).tr H9.out⟩
end Go.Proofs.Ytghgmecaebheoaa
