/- The book is looked at; its other kinds, of which it keeps none. -/
import Derived.Test.YtndfgijdcanbaaaBook
namespace Go.Proofs.Ytndfgijdcanbaaa
open Go.RowKit
set_option linter.unusedVariables false

set_option maxHeartbeats 2000000 in
theorem book_look (b1 b2 k : Nat) (es : Rows_) (w : World) (h : Bk b1 b2 w k es) (hn : es.length ≤ 1000000) :
    Calls Try.prog 24 #[.pointer (some ⟨k, 0, none⟩)] w fun e w' => e = .returned (.bool true) ∧ ∃ n, w' = w.drewN n := by
  obtain ⟨vb, vs, ss, hh, hrow, hss, htx, hne⟩ := h.ex
  obtain ⟨Ab, cb, rfl, hrb, _, _, _⟩ := own_rd hrow
  obtain ⟨As, cs, rfl, hrs, _, _, _⟩ := own_rd hss.row
  have hlen : ss.length = es.length := by have := congrArg List.length htx; simpa [txt] using this
  have HR : Hid (RdL w Ab es) := Lib.hid ⟨hrb, fun x hx => h.own.rd hx⟩
  have HR' : Hid (RdL w As ss) := Lib.hid ⟨hrs, fun x hx => hss.each.rd hx⟩
  have HE := Lib.hid htx
  have HN := Lib.hid hlen
  have hk0 : w.cell? ⟨k, 0, none⟩ = some (.slice Ab es.length cb) := by rw [hh.at_.cell]; rfl
  have hk1 : w.cell? ⟨k, 1, none⟩ = some (.slice As es.length cs) := by rw [hh.at_.cell, ← hlen]; rfl
  have hk2 : w.cell? ⟨k, 2, none⟩ = some (.slice none 0 0) := by rw [hh.at_.cell]; rfl
  have hk4 : w.cell? ⟨k, 4, none⟩ = some (.slice none 0 0) := by rw [hh.at_.cell]; rfl
  clear h hh hrow hss htx hne hrb hrs hlen
  go_enter Try.func24, Try.ntmps24
  go_wp2
  go_loopw [3] (fun i wr => ∃ q : Nat, q ≤ es.length ∧ i = .int .i64 q ∧ Hid (∃ n, wr = w.drewN n)) (fun i _ => es.length - (intOf i).toNat)
  case atStart => exact ⟨0, by omega, rfl, 0, rfl⟩
  case round =>
    obtain ⟨q, hq, rfl, HD⟩ := hrel
    obtain ⟨n, hn'⟩ := HD.out
    subst hn'
    clear HD
    have hk0' : (w.drewN n).cell? ⟨k, 0, none⟩ = some (.slice Ab es.length cb) := hk0
    have hk1' : (w.drewN n).cell? ⟨k, 1, none⟩ = some (.slice As es.length cs) := hk1
    have hk2' : (w.drewN n).cell? ⟨k, 2, none⟩ = some (.slice none 0 0) := hk2
    have hk4' : (w.drewN n).cell? ⟨k, 4, none⟩ = some (.slice none 0 0) := hk4
    by_cases hlt : q < es.length
    · have hlt' : q < ss.length := by have := HN.out; omega
      obtain ⟨⟨b, o, rfl, hc⟩, hx⟩ := HR.out.get hlt
      obtain ⟨⟨b', o', rfl, hc'⟩, hx'⟩ := HR'.out.get hlt'
      have hexy : es[q].2.2 = ss[q].2.2 := by
        have := congrArg (fun l => l[q]?) HE.out
        simpa [txt, hlt, hlt'] using this.symm
      have HXY := Lib.hid hexy
      have HX := Lib.hid hx
      have HX' := Lib.hid hx'
      clear hexy hx hx'
      generalize es[q] = x at *
      generalize ss[q] = y at *
      have hk6 : q < 1000000 := by omega
      have hli : (q : Int) < es.length := by omega
      have HQ : Hid (∀ W, Rd W x.1 x.2.2 → Rd W y.1 y.2.2 → Calls Try.prog 21 #[.slice x.1 x.2.2.length x.2.1, .slice y.1 y.2.2.length y.2.1] W fun e w' => e = .returned (.bool true) ∧ w' = W) := fun W h1 h2 => (same_any _ _ _ _ _ _ W h1 h2).mono fun e w' ⟨he, hw⟩ => ⟨by rw [he, HXY.out, beq_self_eq_true], hw.symm⟩
      go_wp2_with fail
      go_quiet ((go_at_call 21; exact quiet_add_same' (HQ.out _ (HX.out.drewN _) (HX'.out.drewN _))))
      go_wp2_with fail
      go_roundw
      case rel => exact ⟨q + 1, by omega, by go_num, _, rfl⟩
      case measure => simp [intOf]; omega
    · go_wp2_with fail
      go_loopw [4] (fun i wr => i = .int .i64 0 ∧ Hid (wr = w.drewN n)) (fun _ _ => 0)
      case atStart => exact ⟨rfl, rfl⟩
      case round =>
        obtain ⟨rfl, hw⟩ := hrel
        obtain rfl := hw.out
        clear hw
        go_wp2_with fail
        go_loopw [5] (fun i wr => i = .int .i64 0 ∧ Hid (wr = w.drewN n)) (fun _ _ => 0)
        case atStart => exact ⟨rfl, rfl⟩
        case round =>
          obtain ⟨rfl, hw⟩ := hrel
          obtain rfl := hw.out
          clear hw
          go_wp2_with fail
          go_ret
          exact ⟨rfl, _, rfl⟩

set_option maxHeartbeats 2000000 in
theorem close_words (k : Nat) (vb vs : Value) (w : World) (hh : BookHead w k vb vs) :
    Calls Try.prog 26 #[.pointer (some ⟨k, 0, none⟩)] w fun e w' => e = .returned (.bool true) ∧ w' = w := by
  have hk2 : w.cell? ⟨k, 2, none⟩ = some (.slice none 0 0) := by rw [hh.at_.cell]; rfl
  clear hh
  go_enter Try.func26, Try.ntmps26
  go_wp2
  go_loopw [3] (fun i wr => i = .int .i64 0 ∧ Hid (w = wr)) (fun _ _ => 0)
  case atStart => exact ⟨rfl, rfl⟩
  case round =>
    obtain ⟨rfl, hw⟩ := hrel
    obtain rfl := hw.out
    clear hw
    go_wp2_with fail
    go_loopw [5, 6] (fun gr i wr => gr = .slice none 0 0 ∧ i = .int .i64 0 ∧ Hid (w = wr)) (fun _ _ _ => 0)
    case atStart => exact ⟨rfl, rfl, rfl⟩
    case round =>
      obtain ⟨rfl, rfl, hw⟩ := hrel
      obtain rfl := hw.out
      clear hw
      go_wp2_with fail
      go_loopw [8] (fun i wr => i = .int .i64 0 ∧ Hid (w = wr)) (fun _ _ => 0)
      case atStart => exact ⟨rfl, rfl⟩
      case round =>
        obtain ⟨rfl, hw⟩ := hrel
        obtain rfl := hw.out
        clear hw
        go_wp2_with fail
        go_ret
        exact ⟨rfl, rfl⟩
set_option maxHeartbeats 2000000 in
theorem close_ints (k : Nat) (vb vs : Value) (w : World) (hh : BookHead w k vb vs) :
    Calls Try.prog 27 #[.pointer (some ⟨k, 0, none⟩)] w fun e w' => e = .returned (.bool true) ∧ w' = w := by
  have hk2 : w.cell? ⟨k, 4, none⟩ = some (.slice none 0 0) := by rw [hh.at_.cell]; rfl
  clear hh
  go_enter Try.func27, Try.ntmps27
  go_wp2
  go_loopw [3] (fun i wr => i = .int .i64 0 ∧ Hid (w = wr)) (fun _ _ => 0)
  case atStart => exact ⟨rfl, rfl⟩
  case round =>
    obtain ⟨rfl, hw⟩ := hrel
    obtain rfl := hw.out
    clear hw
    go_wp2_with fail
    go_loopw [5, 6] (fun gr i wr => gr = .slice none 0 0 ∧ i = .int .i64 0 ∧ Hid (w = wr)) (fun _ _ _ => 0)
    case atStart => exact ⟨rfl, rfl, rfl⟩
    case round =>
      obtain ⟨rfl, rfl, hw⟩ := hrel
      obtain rfl := hw.out
      clear hw
      go_wp2_with fail
      go_loopw [8] (fun i wr => i = .int .i64 0 ∧ Hid (w = wr)) (fun _ _ => 0)
      case atStart => exact ⟨rfl, rfl⟩
      case round =>
        obtain ⟨rfl, hw⟩ := hrel
        obtain rfl := hw.out
        clear hw
        go_wp2_with fail
        go_ret
        exact ⟨rfl, rfl⟩
end Go.Proofs.Ytndfgijdcanbaaa
