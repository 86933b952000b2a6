/- New, Len, Range. -/
import Derived.Test.YtlcifkkgekpicaaSkip6
namespace Go.Proofs.Ytlcifkkgekpicaa
open Go.RowKit
set_option linter.unusedVariables false

theorem Sat.base' {w w2 w3 : World} {A : SP} (k : Chg No w w2) (h : Sat w2 A w3) : Sat w A w3 := by
  obtain ⟨x, h1, h2⟩ := h.hp
  have := k.size
  exact ⟨k.tr h.chg, x, fun b y hy => ⟨(h1 b y hy).1, fun e => by have := (h1 b y hy).2 e; omega⟩, h2⟩
theorem nok_nil : NOk [] := ⟨by simp, List.Pairwise.nil⟩
theorem new_any (w0 w : World) (F : SP) (h : Sat w0 F w) : Calls Try.prog 13 #[] w fun x w' => ∃ b hr, x = .returned (.pointer (some ⟨b, 0, none⟩)) ∧ Sat w0 (SkipC b hr [] 0 0 * F) w' := by
  have hmk : ∀ W, (Instr.makeSlice 71 (.int .i64 8) (.int .i64 8)).run Try.prog W = .ok (.slice (some ⟨W.heap.size, 0, none⟩) 8 8) (W.alloc (.cells (rowN noT 8 0) 79)) := fun W => make_ptrs 8 (by omega) W
  have HS := Lib.hid h
  clear h
  go_enter Try.func13, Try.ntmps13
  go_wp2_with fail
  go_ret
  have h1 := (HS.out.allocPt 79 (rowN noT 8 0)).allocAt (b := w.heap.size + 1) 75 #[.slice (some ⟨w.heap.size, 0, none⟩) 8 8, .int .i64 0, .int .i64 0] (by simp)
  refine ⟨_, w.heap.size, rfl, ?_⟩
  refine Sat.of ?_ (skip_tab ..).symm
  have h3 : Sat w0 (RoL (slcs []) * (Pt (w.heap.size + 1) 75 #[.slice (some ⟨w.heap.size, 0, none⟩) 8 8, .int .i64 0, .int .i64 0] * (Pt w.heap.size 79 (rowN noT 8 0) * F))) _ := h1.rolNil _ (by simp [slcs])
  exact h3.of (by
    show RoL (slcs []) * (Pt _ _ _ * (Pt _ _ (rowN noT 8 0) * F)) = Pt _ _ _ * (Pt _ _ (rowN noT 8 0) * (Emp * (RoL (slcs []) * F)))
    rw [emp_star]; ac_rfl)
theorem len_any (b hr : Nat) (ns : List Nd) (c y : Int) (w0 w : World) (F : SP) (h : Sat w0 (SkipC b hr ns c y * F) w) : Calls Try.prog 24 #[.pointer (some ⟨b, 0, none⟩)] w fun x w' => x = .returned (.int .i64 c) ∧ w' = w := by
  have q := h.skipC1
  clear h
  go_enter Try.func24, Try.ntmps24
  go_wp2_with fail
  go_ret
  exact ⟨rfl, rfl⟩
def fromE (l : List UInt8) : Ent := ⟨l, [], 9223372036854775807, false⟩
/-- What a range tells. -/
def rangeE (fl tl : List UInt8) (ns : List Nd) : List Ent := witE tl 0 (behind (fromE fl) ns)
theorem run_index0 (a0 a1 a2 a3 a4 a5 a6 a7 : Option Addr) (W : World) : (Instr.index 77 (.agg #[.pointer a0, .pointer a1, .pointer a2, .pointer a3, .pointer a4, .pointer a5, .pointer a6, .pointer a7]) (.int .i64 0)).run Try.prog W = .ok (.pointer a0) W := by
  simp [Instr.index, run_underlying Try.underlying77, asIntOf, go_sem]
set_option maxHeartbeats 1000000 in
theorem range_any (FA : Option Addr) (Fc : Nat) (fl : List UInt8) (T : Option Addr) (Tc : Nat) (tl : List UInt8) (b hr : Nat) (ns : List Nd) (w : World) (hf : Rd w FA fl) (hto : Rd w T tl) (hv : View w b hr ns) (hok : NOk ns) (hsm : Small ns) :
    Calls Try.prog 17 #[.pointer (some ⟨b, 0, none⟩), .slice FA fl.length Fc, .slice T tl.length Tc] w (ToldE w (rangeE fl tl ns)) := by
  have HV := Lib.hid hv
  have HO := Lib.hid hok
  have HT := Lib.hid hto
  have HF := Lib.hid hf
  have HS := Lib.hid hsm
  clear hv hok hto hf hsm
  have HQ : Hid (Value.agg (outC b (ahead (fromE fl) ns) 0) = .agg #[.pointer (some ⟨lastAt b (ahead (fromE fl) ns) 0, 0, none⟩), .pointer (some ⟨lastAt b (ahead (fromE fl) ns) 1, 0, none⟩), .pointer (some ⟨lastAt b (ahead (fromE fl) ns) 2, 0, none⟩), .pointer (some ⟨lastAt b (ahead (fromE fl) ns) 3, 0, none⟩), .pointer (some ⟨lastAt b (ahead (fromE fl) ns) 4, 0, none⟩), .pointer (some ⟨lastAt b (ahead (fromE fl) ns) 5, 0, none⟩), .pointer (some ⟨lastAt b (ahead (fromE fl) ns) 6, 0, none⟩), .pointer (some ⟨lastAt b (ahead (fromE fl) ns) 7, 0, none⟩)]) := rfl
  have hix := run_index0
  go_enter Try.func17, Try.ntmps17
  go_wp2_with (first
    | (go_at_call 36; refine (before_any b hr ns ⟨(FA, Fc, fl), (none, 0, []), 9223372036854775807, false⟩ _ HV.out HO.out ⟨HF.out, Rd.nil _ _⟩).mono ?_; rintro x w2 ⟨rfl, k2⟩; rw [show (⟨(FA, Fc, fl), (none, 0, []), 9223372036854775807, false⟩ : En).ent = fromE fl from rfl, HQ.out]; have HK := Lib.hid k2; obtain ⟨R, h', hlt, q0, q1⟩ := (HV.out.new k2).last HO.out (ahead_behind (fromE fl) ns) (i := 0) (by omega); clear k2)
    | (go_at_call 40; refine (within_any T Tc tl b hr ns (ahead (fromE fl) ns) (behind (fromE fl) ns) 0 _ (HT.out.new HK.out) (HV.out.new HK.out) HO.out HS.out (ahead_behind _ _) (by omega)).mono ?_; rintro x w3 ⟨es, A, c, rfl, he, hs⟩; have HE := Lib.hid he; have HS3 := Lib.hid (Sat.base' HK.out hs); clear he hs))
  go_ret
  exact ⟨es, A, c, rfl, HE.out, HS3.out⟩
end Go.Proofs.Ytlcifkkgekpicaa
