/- wal.Read on a space, by the plain words. -/
import Derived.Test.YtjmapbhgjhlefaaQWalApp
import Derived.Test.YtjmapbhgjhlefaaQExtC
namespace Go.Proofs.Ytjmapbhgjhlefaa
open Go.RowKit
set_option linter.unusedVariables false
set_option maxRecDepth 100000

theorem flat_few : ∀ {l : List (List UInt8)}, (∀ p ∈ l, p.length ≤ 480) → l.flatten.length ≤ l.length * 480
  | [], _ => by simp
  | p :: l, h => by
    have h1 := h p List.mem_cons_self
    have h2 := flat_few (l := l) fun q hq => h q (List.mem_cons_of_mem _ hq)
    rw [List.flatten_cons, List.length_append, List.length_cons]
    omega
section
variable {w0 w : World} {F : SP} {s d n m : Nat} {D : Dk} {S : Spc} {sf : Nat → Nat} {lim : Nat} {f : Fl}
theorem read_none {n : Int} (hg : Good D S sf lim) (h : Sat w0 (SpaceP s d S * (Disk d D * F)) w) (hf : S.find n = none) :
    Calls Try.prog 23 #[.pointer (some ⟨s, 0, none⟩), .int .i64 n] w fun e w' => e = .returned (.tuple #[.slice none 0 0, .int .i64 34]) ∧ w = w' := by
  have HF := Lib.hid (frames_sp_no (n := n) hg h hf)
  clear hg h hf
  go_enter Try.func23, Try.ntmps23
  go_wp2_with (go_at_call 30; (with_reducible refine HF.out.mono ?_); rintro e w1 ⟨rfl, rfl⟩)
  go_ret2
  exact ⟨rfl, rfl⟩
set_option maxHeartbeats 1000000 in
theorem read_sp {n : Int} (hg : Good D S sf lim) (h : Sat w0 (SpaceP s d S * (Disk d D * F)) w) (hf : S.find n = some f) :
    Calls Try.prog 23 #[.pointer (some ⟨s, 0, none⟩), .int .i64 n] w fun e w' => ∃ u rs, e = .returned (.tuple #[u, .int .i64 0]) ∧ txt rs = whole f.frames ∧ Sat w0 (Row 39 1 u rs.length (rs.map slOf) * (OwnR rs * (SpaceP s d S * (Disk d D * F)))) w' := by
  have HF := Lib.hid (frames_spC (n := n) hg h hf)
  obtain ⟨k1, k2, k3, k4, k5⟩ := hg.file (find_mem hf).1
  have hfl := flat_few k3
  have HW : Hid (∀ (A : Option Addr) (c : Nat) (ts : Rows_) W, txt ts = f.frames → (∀ x ∈ ts, x.2.2.length ≤ x.2.1 ∧ x.2.1 ≤ maxLen) → RdL W A ts → Calls Try.prog 68 #[.slice A ts.length c] W (fun e w' => ∃ v rs, e = .returned v ∧ txt rs = whole f.frames ∧ OwnLL W.heap.size w' v rs ∧ Chg No W w')) := fun A c ts W ht hcp hr => by
    have hl : ts.length = f.frames.length := by rw [← ht]; unfold txt; simp
    have h9 := whole_any A c ts W hr hcp (by rw [ht]; omega) (by omega)
    rw [ht] at h9
    exact h9
  clear hg h hf k1 k2 k3 k4 k5 hfl
  go_enter Try.func23, Try.ntmps23
  go_wp2_with (first
    | (go_at_call 30; (with_reducible refine HF.out.mono ?_); rintro e w1 ⟨u, ts, rfl, ht, hcp, hs⟩; obtain ⟨A, c, rfl, _⟩ := hs.row_sl; have HS1 := Lib.hid hs; have HWc := Lib.hid (HW.out A c ts w1 ht hcp ⟨hs.row_rdvX, fun x hx => hs.up2.rol hx⟩); clear hs ht hcp)
    | (go_at_call 68; (with_reducible refine HWc.out.mono ?_); rintro e w2 ⟨v, rs, rfl, ht, ho, hk⟩; have HS2 := Lib.hid (HS1.out.gotLL hk ho); have HT := Lib.hid ht; clear ht ho hk))
  go_ret2
  exact ⟨_, rs, rfl, HT.out, HS2.out.up3.right.up3.right⟩
end
end Go.Proofs.Ytjmapbhgjhlefaa
