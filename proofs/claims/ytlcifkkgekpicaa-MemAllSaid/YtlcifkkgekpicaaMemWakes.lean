/- mem's wakes. -/
import Derived.Test.YtlcifkkgekpicaaSkip7
import Derived.Lib.SlBytesConst
namespace Go.Proofs.Ytlcifkkgekpicaa
open Go.RowKit
set_option linter.unusedVariables false

def eB : Ent := ⟨[98], [], 1, false⟩
def eA : Ent := ⟨[97], [120], 2, false⟩
def eA2 : Ent := ⟨[97], [], 2, false⟩
theorem wk_ahead1 (N : Nd) (h : N.e.ent = eB) : ahead eA [N] = [] ∧ behind eA [N] = [N] ∧ twice eA [N] = false := by
  have h1 : lessE N.e.ent eA = false := by rw [h]; decide
  have h2 : ordE N.e.ent eA ≠ 0 := by rw [h]; decide
  refine ⟨by unfold ahead; rw [List.takeWhile_cons, h1]; rfl, by unfold behind; rw [List.dropWhile_cons, h1]; rfl, ?_⟩
  unfold twice behind
  rw [List.dropWhile_cons, h1]
  simp [h2]
theorem wk_twice (M N : Nd) (h : M.e.ent = eA) : twice eA2 [M, N] = true := by
  have h1 : lessE M.e.ent eA2 = false := by rw [h]; decide
  have h2 : ordE M.e.ent eA2 = 0 := by rw [h]; decide
  unfold twice behind
  rw [List.dropWhile_cons, h1]
  simp [h2]
theorem wk_range (M N : Nd) (hm : M.e.ent = eA) (hn : N.e.ent = eB) (h1 : 0 < M.v) (h2 : 0 < N.v) : rangeE [] [] [M, N] = [eA, eB] := by
  have h3 : lessE M.e.ent (fromE []) = false := by rw [hm]; decide
  unfold rangeE behind
  rw [List.dropWhile_cons, h3]
  unfold witE
  simp [h1, h2, hm, hn, inB]
theorem nok_put {ns : List Nd} {N : Nd} {e : Ent} {H : Int} (hok : NOk ns) (ht : twice e ns = false) (hN : N.e.ent = e) (hv : N.v = N.h) (hh : N.h = clampH H) : NOk (ahead e ns ++ N :: behind e ns) := by
  have hs := hok.sort
  have e0 := ahead_behind e ns
  have hmem : ∀ n, n ∈ ahead e ns ∨ n ∈ behind e ns → n ∈ ns := fun n hn => by rw [e0]; exact List.mem_append.2 hn
  have hlt : ∀ n ∈ behind e ns, LTE N.e.ent n.e.ent := by
    intro n hn
    rcases lte_tri N.e.ent n.e.ent with q | q | q
    · exact q
    · exfalso
      rw [hN] at q
      cases hb : behind e ns with
      | nil => rw [hb] at hn; simp at hn
      | cons m s =>
        rw [hb] at hn
        rw [e0, hb, List.pairwise_append, List.pairwise_cons] at hs
        rcases List.mem_cons.1 hn with z | hn
        · subst z; exact behind_head hb q
        · exact behind_head hb (lte_trans (hs.2.1.1 n hn) q)
    · exfalso
      have : twice e ns = true := (twice_iff hok).2 ⟨n, hmem n (.inr hn), by rw [← hN]; exact q.symm⟩
      rw [ht] at this; cases this
  refine ⟨fun n hn => ?_, ?_⟩
  · rcases List.mem_append.1 hn with hn | hn
    · exact hok.full n (hmem n (.inl hn))
    · rcases List.mem_cons.1 hn with hn | hn
      · subst hn
        refine ⟨hv, ?_, ?_⟩ <;> rw [hh] <;> unfold clampH <;> omega
      · exact hok.full n (hmem n (.inr hn))
  · rw [e0, List.pairwise_append] at hs
    rw [List.pairwise_append, List.pairwise_cons]
    refine ⟨hs.1, ⟨hlt, hs.2.1⟩, fun a ha c hc => ?_⟩
    rcases List.mem_cons.1 hc with hc | hc
    · subst hc; rw [hN]; exact (mem_ahead ha).2
    · exact hs.2.2 a ha c hc
theorem mnum_any (x : Int) (w : World) : Calls Try.prog 21 #[.int .i64 x] w fun e w' => e = .returned (.int .i64 x) ∧ w' = w := by
  go_enter Try.func21, Try.ntmps21
  go_wp2
  go_ret
  exact ⟨rfl, rfl⟩
section
variable {w w1 w2 w3 : World} {b hr : Nat} {N1 N2 : Nd}
theorem wput1 (h : Sat w (SkipC b hr [] 0 0 * Emp) w1) : Calls Try.prog 14 #[.pointer (some ⟨b, 0, none⟩), .agg #[.slice (some ⟨w1.heap.size, 0, none⟩) 1 1, .slice none 0 0, .int .i64 1, .bool false], .int .i64 1] (w1.alloc (.cells #[.int .u8 98] 5 (1, 2)))
    fun x w2 => x = .returned (.int .i64 0) ∧ ∃ N1 : Nd, N1.e.ent = eB ∧ N1.v = 1 ∧ NOk [N1] ∧ Sat w (SkipC b hr [N1] 1 1 * Emp) w2 := by
  refine (put_any b hr [] 0 0 1 ⟨(some ⟨w1.heap.size, 0, none⟩, 1, [98]), (none, 0, []), 1, false⟩ w _ Emp (h.alloc' _) nok_nil ⟨RdV.lit w1 #[.int .u8 98] 5 (1, 2), Rd.nil _ _⟩ (by simp) (by simp) (by omega) (by omega)).mono ?_
  rintro x w2 hp
  obtain ⟨ht, rfl, N1, a1, a2, a3, hs2⟩ := hp.resolve_left (fun q => by have := q.1; simp [twice, behind] at this)
  exact ⟨rfl, N1, a1, a2.trans a3, nok_put (e := eB) (H := 1) nok_nil ht a1 a2 a3, hs2⟩
theorem wput2 (h : Sat w (SkipC b hr [N1] 1 1 * Emp) w2) (h1 : N1.e.ent = eB) (hok : NOk [N1]) : Calls Try.prog 14 #[.pointer (some ⟨b, 0, none⟩), .agg #[.slice (some ⟨w2.heap.size, 0, none⟩) 1 1, .slice (some ⟨w2.heap.size + 1, 0, none⟩) 1 1, .int .i64 2, .bool false], .int .i64 3] ((w2.alloc (.cells #[.int .u8 97] 5 (1, 2))).alloc (.cells #[.int .u8 120] 5 (1, 2)))
    fun x w3 => x = .returned (.int .i64 0) ∧ ∃ N2 : Nd, N2.e.ent = eA ∧ N2.v = 3 ∧ NOk [N2, N1] ∧ Sat w (SkipC b hr [N2, N1] 2 3 * Emp) w3 := by
  refine (put_any b hr [N1] 1 1 3 ⟨(some ⟨w2.heap.size, 0, none⟩, 1, [97]), (some ⟨w2.heap.size + 1, 0, none⟩, 1, [120]), 2, false⟩ w _ Emp ((h.alloc' _).alloc' _) hok ⟨Rd.alloc (show Rd _ (some ⟨w2.heap.size, 0, none⟩) [97] from RdV.lit w2 #[.int .u8 97] 5 (1, 2)) _, (by have := RdV.lit (w2.alloc (.cells #[.int .u8 97] 5 (1, 2))) #[.int .u8 120] 5 (1, 2); rw [World.size_alloc] at this; exact this)⟩ (by simp) (by simp) (by omega) (by omega)).mono ?_
  rintro x w3 hp
  obtain ⟨z1, z2, z3⟩ := wk_ahead1 N1 h1
  obtain ⟨ht, rfl, N2, a1, a2, a3, hs3⟩ := hp.resolve_left (fun q => by have h1 := q.1; exact absurd (h1.symm.trans z3) (by simp))
  have a1 : N2.e.ent = eA := a1
  have ok2 := nok_put (e := eA) (H := 3) hok z3 a1 a2 a3
  have hs3 : Sat w (SkipC b hr (ahead eA [N1] ++ N2 :: behind eA [N1]) 2 3 * Emp) w3 := hs3
  rw [z1, z2] at ok2 hs3
  exact ⟨rfl, N2, a1, a2.trans a3, ok2, hs3⟩
theorem wput3 (h : Sat w (SkipC b hr [N2, N1] 2 3 * Emp) w3) (h1 : N2.e.ent = eA) (hok : NOk [N2, N1]) : Calls Try.prog 14 #[.pointer (some ⟨b, 0, none⟩), .agg #[.slice (some ⟨w3.heap.size, 0, none⟩) 1 1, .slice none 0 0, .int .i64 2, .bool false], .int .i64 3] (w3.alloc (.cells #[.int .u8 97] 5 (1, 2)))
    fun x w4 => x = .returned (.int .i64 50) ∧ Sat w (SkipC b hr [N2, N1] 2 3 * Emp) w4 := by
  refine (put_any b hr [N2, N1] 2 3 3 ⟨(some ⟨w3.heap.size, 0, none⟩, 1, [97]), (none, 0, []), 2, false⟩ w _ Emp (h.alloc' _) hok ⟨RdV.lit w3 #[.int .u8 97] 5 (1, 2), Rd.nil _ _⟩ (by simp) (by simp) (by omega) (by omega)).mono ?_
  rintro x w4 hp
  obtain ⟨ht, rfl, hs4⟩ := hp.resolve_right (fun q => by have h1' := q.1; have h2 := wk_twice N2 N1 h1; exact absurd (h2.symm.trans h1') (by simp))
  exact ⟨rfl, hs4⟩
theorem wrange (h : Sat w (SkipC b hr [N2, N1] 2 3 * Emp) w3) (h1 : N1.e.ent = eB) (h2 : N2.e.ent = eA) (v1 : N1.v = 1) (v2 : N2.v = 3) (hok : NOk [N2, N1]) : Calls Try.prog 17 #[.pointer (some ⟨b, 0, none⟩), .slice none 0 0, .slice none 0 0] w3
    fun x w4 => ∃ A c, x = .returned (.slice A 2 c) ∧ Chg No w w4 ∧ ∃ g o S k n, A = some ⟨g, o, none⟩ ∧ w4.cell? ⟨g, o, none⟩ = some (.slice S 1 k) ∧ n = 0 ∧ Rd w4 S [97] := by
  have k1 : N1.e.key.2.2.length = 1 := by have := congrArg Ent.key h1; exact congrArg List.length this
  have k2 : N1.e.value.2.2.length = 0 := by have := congrArg Ent.value h1; exact congrArg List.length this
  have k3 : N2.e.key.2.2.length = 1 := by have := congrArg Ent.key h2; exact congrArg List.length this
  have k4 : N2.e.value.2.2.length = 1 := by have := congrArg Ent.value h2; exact congrArg List.length this
  refine (range_any none 0 [] none 0 [] b hr [N2, N1] w3 (Rd.nil _ _) (Rd.nil _ _) (h.view hok) hok ⟨by simp, fun n hn => ?_⟩).mono ?_
  · simp at hn
    rcases hn with rfl | rfl <;> omega
  · rintro x w4 ⟨es, A, c, rfl, he, hs⟩
    rw [wk_range N2 N1 h2 h1 (by omega) (by omega)] at he
    rcases es with _ | ⟨p, _ | ⟨q, _ | ⟨r, es⟩⟩⟩
    · simp at he
    · simp at he
    · simp at he
      obtain ⟨g, hA, hg⟩ := hs.row_at (by simp)
      have hk : p.key.2.2 = [97] := congrArg Ent.key he.1
      have hro := hs.right
      obtain ⟨S, k, e1, hr1, _⟩ := Sat.row_rd (h := hro)
      refine ⟨A, c, rfl, h.chg.tr hs.chg, g, 0, p.key.1, p.key.2.1, 0, hA, ?_, rfl, ?_⟩
      · have := hg 0 (by simp [enV])
        rw [this]
        simp [enV, slv', hk]
      · unfold slv' at e1
        injection e1 with e1 _ _
        rw [e1, ← hk]
        exact hr1
    · simp at he
end
set_option maxHeartbeats 2000000 in
theorem mwakes_any (w : World) : Calls Try.prog 12 #[] w fun e w' => e = .returned (.bool true) ∧ Chg No w w' := by
  have HW := Lib.hid (Sat.start w)
  have hcv := fun (W : World) (C : Array Value) (n c : Nat) => Lib.run_convert_bytes_const (P := Try.prog) W 22 5 C n c Try.underlying22 Try.underlying5
  have hcv2 : ∀ (W : World) (o : Obj) (C : Array Value) (n c : Nat), (convert 22 22 (.slice (some ⟨W.heap.size + 1, 0, none⟩) n c)).run Try.prog ((W.alloc o).alloc (.cells C 5)) = .ok (.slice (some ⟨W.heap.size + 1, 0, none⟩) n c) ((W.alloc o).alloc (.cells C 5 (C.size, C.size + 1))) := fun W o C n c => by
    have := Lib.run_convert_bytes_const (P := Try.prog) (W.alloc o) 22 5 C n c Try.underlying22 Try.underlying5
    rwa [World.size_alloc] at this
  go_enter Try.func12, Try.ntmps12
  go_wp2_with (first
    | (go_at_call 13; refine (new_any w _ _ HW.out).mono ?_; rintro x w1 ⟨b, hr, rfl, hs1⟩; have HS1 := Lib.hid hs1; clear hs1)
    | (go_at_call 24; refine (len_any b hr [] 0 0 w _ _ HS1.out).mono ?_; rintro x w' ⟨rfl, hw'⟩; rw [hw']; clear hw' w')
    | (go_at_call 14; (with_reducible refine (wput3 HS3.out HN2.out HO2.out).mono ?_); rintro x w4 ⟨rfl, hs4⟩; have HS4 := Lib.hid hs4; clear hs4)
    | (go_at_call 14; (with_reducible refine (wput2 HS2.out HN1.out HO1.out).mono ?_); rintro x w3 ⟨rfl, N2, a1, a2, a3, hs3⟩; have HS3 := Lib.hid hs3; have HN2 := Lib.hid a1; have HV2 := Lib.hid a2; have HO2 := Lib.hid a3; clear hs3 a1 a2 a3)
    | (go_at_call 14; (with_reducible refine (wput1 HS1.out).mono ?_); rintro x w2 ⟨rfl, N1, a1, a2, a3, hs2⟩; have HS2 := Lib.hid hs2; have HN1 := Lib.hid a1; have HV1 := Lib.hid a2; have HO1 := Lib.hid a3; clear hs2 a1 a2 a3)
    | (go_at_call 17; (with_reducible refine (wrange HS4.out HN1.out HN2.out HV1.out HV2.out HO2.out).mono ?_); rintro x w5 ⟨A, c, rfl, k5, g, o, S, k, n, rfl, q0, rfl, hr5⟩; have HK5 := Lib.hid k5; have hstr := hr5.str (P := Try.prog) 22 9 5 Try.underlying22 Try.underlying5 Try.underlying9 k; rw [show ([97] : List UInt8).length = 1 from rfl] at hstr; clear k5 hr5)
    | (go_at_call 21; refine (mnum_any _ _).mono ?_; rintro x w' ⟨rfl, hw'⟩; rw [hw']; clear hw' w'))
  go_ret
  exact ⟨rfl, HK5.out⟩
end Go.Proofs.Ytlcifkkgekpicaa
