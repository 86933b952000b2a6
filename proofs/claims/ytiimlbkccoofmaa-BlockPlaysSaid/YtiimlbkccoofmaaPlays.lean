/- The statements' done: one op of both disks. -/
import Derived.Test.YtiimlbkccoofmaaRef7
import Derived.Test.YtiimlbkccoofmaaBlkTwin
import Derived.Test.YtiimlbkccoofmaaLend
namespace Go.Proofs.Ytiimlbkccoofmaa
open Go.RowKit
set_option linter.unusedVariables false

structure OpD where
  do_ : Int
  n : Int
  v : Int
  kp : Option Addr
  kc : Nat
  keep : List Bool
  torn : Int
  bytes : Int
def opV (o : OpD) : List Value := [.int .i64 o.do_, .int .i64 o.n, .int .i64 o.v, .slice o.kp o.keep.length o.kc, .int .i64 o.torn, .int .i64 o.bytes]
def Dk.stepK (D : Dk) (o : OpD) (k : Nat) : Dk :=
  match k with
  | 1 => (D.write o.n (fill o.v)).1
  | 2 => D.flush.1
  | 3 => { D with armed := o.n.toNat }
  | 4 => { D with off := true }
  | 5 => D.on o.keep o.torn o.bytes
  | 7 => (D.write o.n (List.replicate (bits .and .i64 o.v 1023).toNat 0)).1
  | _ => D
def Dk.step (D : Dk) (o : OpD) : Dk := D.stepK o (wi o.do_ 7)
structure Small (D : Dk) (m : Nat) : Prop where
  writes : D.writes ≤ m
  pend : D.pend.length ≤ m
  armed : D.armed ≤ 9223372036854775807
theorem Small.write {D : Dk} {m : Nat} (h : Small D m) (i : Int) (b : List UInt8) : Small (D.write i b).1 (m + 1) := by
  unfold Dk.write
  split
  · split
    · refine ⟨?_, ?_, ?_⟩
      · have := h.writes; show D.writes + 1 ≤ _; omega
      · have := h.pend; show (D.pend ++ [_]).length ≤ _; simp; omega
      · have := h.armed; show D.armed - 1 ≤ _; omega
    · exact ⟨by have := h.writes; show D.writes ≤ _; omega, by have := h.pend; show D.pend.length ≤ _; omega, h.armed⟩
  · exact ⟨by have := h.writes; show D.writes ≤ _; omega, by have := h.pend; show D.pend.length ≤ _; omega, h.armed⟩
theorem Small.mono {D : Dk} {m n : Nat} (h : Small D m) (e : m ≤ n) : Small D n := ⟨Nat.le_trans h.writes e, Nat.le_trans h.pend e, h.armed⟩
theorem Small.flush {D : Dk} {m : Nat} (h : Small D m) : Small D.flush.1 m := by
  unfold Dk.flush
  split
  · exact h
  · exact ⟨h.writes, Nat.zero_le _, h.armed⟩
theorem Small.on {D : Dk} {m : Nat} (h : Small D m) (keep : List Bool) (torn bytes : Int) : Small (D.on keep torn bytes) m := by
  unfold Dk.on
  split
  · exact ⟨h.writes, Nat.zero_le _, by show 0 ≤ _; omega⟩
  · exact h
theorem Small.step {D : Dk} {m : Nat} (h : Small D m) (o : OpD) (hn : o.n ≤ 9223372036854775807) : Small (D.step o) (m + 1) := by
  unfold Dk.step Dk.stepK
  split
  · exact h.write _ _
  · exact h.flush.mono (Nat.le_succ _)
  · exact ⟨by have := h.writes; show D.writes ≤ _; omega, by have := h.pend; show D.pend.length ≤ _; omega, by show o.n.toNat ≤ _; omega⟩
  · exact ⟨by have := h.writes; show D.writes ≤ _; omega, by have := h.pend; show D.pend.length ≤ _; omega, h.armed⟩
  · exact (h.on ..).mono (Nat.le_succ _)
  · exact h.write _ _
  · exact h.mono (Nat.le_succ _)
def DoneP (d r : Nat) (D : Dk) (o : OpD) (F : SP) : SP := Disk d D * (RDisk r D * (Ro o.kp (o.keep.map Value.bool) * F))
def DoneD (d r : Nat) (D : Dk) (o : OpD) (w0 : World) (F : SP) (e : Ending) (w' : World) : Prop := e = .returned (.bool true) ∧ Sat w0 (DoneP d r (D.step o) o F) w'
section
variable {w0 w : World} {F : SP} {d r : Nat} {D D' : Dk} {i k : Int}
theorem rWrite_at {A : Option Addr} {c n : Nat} {b : List UInt8} (h : Sat w0 (RDisk r D * F) w) (hb : Rd w A b) (hn : b.length = n) (hr : D.write i b = (D', k)) (h1 : n ≤ 140737488355328) (hw : Small D 1000000000) :
    Calls Try.prog 36 #[.pointer (some ⟨r, 0, none⟩), .int .i64 i, .slice A n c] w fun e w' => e = .returned (.int .i64 k) ∧ Sat w0 (RDisk r D' * F) w' := by
  have := rWrite_any r D i A c n b w0 w F h hb hn h1 hw.writes hw.pend hw.armed
  rw [hr] at this
  exact this
theorem rFlush_at (h : Sat w0 (RDisk r D * F) w) (hr : D.flush = (D', k)) (hw2 : D.pend.length ≤ 1000000000) :
    Calls Try.prog 38 #[.pointer (some ⟨r, 0, none⟩)] w fun e w' => e = .returned (.int .i64 k) ∧ Sat w0 (RDisk r D' * F) w' := by
  have := rFlush_any r D w0 w F h hw2
  rw [hr] at this
  exact this
theorem rRead_at {l : List UInt8} (h : Sat w0 (RDisk r D * F) w) (hr : D.read i = (l, k)) (hw2 : D.pend.length ≤ 1000000000) :
    Calls Try.prog 27 #[.pointer (some ⟨r, 0, none⟩), .int .i64 i] w fun e w' => ∃ A c, e = .returned (.tuple #[.slice A l.length c, .int .i64 k]) ∧ Sat w0 (Row 5 1 (.slice A l.length c) l.length (l.map bv) * (RDisk r D * F)) w' := by
  have := rRead_any r D i w0 w F h hw2
  rw [hr] at this
  exact this
end
theorem Sat.rdHead {w0 w : World} {F : SP} {r : Nat} {D : Dk} (h : Sat w0 (RDisk r D * F) w) : w.cell? ⟨r, 3, none⟩ = some (.int .i64 D.writes) ∧ w.cell? ⟨r, 5, none⟩ = some (.bool D.off) := by
  obtain ⟨vs, vt, vp, cs, ps, hr, hs⟩ := h.rdisk
  exact ⟨(hs.of rdisk_d).cell 3, (hs.of rdisk_d).cell 5⟩
set_option maxRecDepth 100000 in
set_option maxHeartbeats 8000000 in
theorem done_any (d r : Nat) (D : Dk) (o : OpD) (w0 w : World) (F : SP) (h : Sat w0 (DoneP d r D o F) w) (hw : Small D 1000000000) (hk : o.keep.length ≤ 9223372036854775807) (hn : o.n ≤ 9223372036854775807) :
    Calls Try.prog 26 #[.pointer (some ⟨d, 0, none⟩), .pointer (some ⟨r, 0, none⟩), .agg #[.int .i64 o.do_, .int .i64 o.n, .int .i64 o.v, .slice o.kp o.keep.length o.kc, .int .i64 o.torn, .int .i64 o.bytes]] w (DoneD d r D o w0 F) := by
  have HSm := Lib.hid hw
  have HKl := Lib.hid hk
  have h1 := h.allocPt 53 #[.int .i64 o.do_, .int .i64 o.n, .int .i64 o.v, .slice o.kp o.keep.length o.kc, .int .i64 o.torn, .int .i64 o.bytes]
  have q0 := h1.cell 0
  have HS := Lib.hid h1
  have hst : Hid (D.step o = D.stepK o (wi o.do_ 7)) := rfl
  have hle := wi_le o.do_ 7 (by decide)
  have HW := Lib.hid fun W => within0 o.do_ 7 W (by decide) (by decide)
  clear h h1 hw hk
  generalize wi o.do_ 7 = kk at *
  go_enter Try.func26, Try.ntmps26
  go_wp2_with fail
  obtain ⟨B, hB⟩ : ∃ B, B = w.heap.size := ⟨_, rfl⟩
  obtain ⟨W, hW⟩ : ∃ W, W = w.alloc (.cells #[.int .i64 o.do_, .int .i64 o.n, .int .i64 o.v, .slice o.kp o.keep.length o.kc, .int .i64 o.torn, .int .i64 o.bytes] 53) := ⟨_, rfl⟩
  rw [← hB, ← hW] at HS
  rw [← hW, ← hB]
  clear hB hW q0
  refine (HW.out _).mono ?_
  rintro e w' ⟨rfl, rfl⟩
  have q1 := HS.out.cell 1
  have q2 := HS.out.cell 2
  have q3 := HS.out.cell 3
  have q4 := HS.out.cell 4
  have q5 := HS.out.cell 5
  have h8 : kk = 0 ∨ kk = 1 ∨ kk = 2 ∨ kk = 3 ∨ kk = 4 ∨ kk = 5 ∨ kk = 6 ∨ kk = 7 := by omega
  clear HW hle
  rcases h8 with rfl | rfl | rfl | rfl | rfl | rfl | rfl | rfl
  · have HST : Hid (D.step o = D) := hst
    clear hst
    rw [show (((0 : Nat) : Int)) = 0 from rfl]
    obtain ⟨l, c, hrd⟩ : ∃ l c, D.read o.n = (l, c) := ⟨_, _, rfl⟩
    have HRd := Lib.hid hrd
    clear hrd
    go_wp2_with fail
    refine (read_at HS.out.up2 HRd.out).mono ?_
    rintro e w2 ⟨A2, c2, rfl, hs⟩
    have HS2 := Lib.hid hs.row_rb
    have q1 := HS2.out.up3.cell 1
    clear hs
    go_wp2_with fail
    refine (rRead_at HS2.out.up4 HRd.out HSm.out.pend).mono ?_
    rintro e w3 ⟨A3, c3, rfl, hs⟩
    have HS3 := Lib.hid hs.row_rb
    have ecc : (c == c) = true := beq_self_eq_true _
    clear hs
    go_wp2_with (first
      | (go_at_call 9; refine (num_any _ _).mono ?_; rintro e w' ⟨rfl, rfl⟩)
      | (go_at_call 18; refine (same_at HS3.out.up3.rd HS3.out.rd rfl rfl (beq_self_eq_true _)).mono ?_; rintro e w' ⟨rfl, rfl⟩))
    go_ret
    refine ⟨rfl, ?_⟩
    rw [HST.out]
    exact Sat.right (A := Rb A3 l * (Rb A2 l * Pt B 53 #[.int .i64 o.do_, .int .i64 o.n, .int .i64 o.v, .slice o.kp o.keep.length o.kc, .int .i64 o.torn, .int .i64 o.bytes])) (HS3.out.of (by unfold DoneP; ac_rfl))
  · have HST : Hid (D.step o = (D.write o.n (fill o.v)).1) := hst
    clear hst
    rw [show (((1 : Nat) : Int)) = 1 from rfl]
    have ev := length_fill o.v
    have HLf := Lib.hid ev
    clear ev
    obtain ⟨D1, k, hwr⟩ : ∃ D1 k, D.write o.n (fill o.v) = (D1, k) := ⟨_, _, rfl⟩
    have HWr := Lib.hid hwr
    have ekk : (k == k) = true := beq_self_eq_true _
    clear hwr
    go_wp2_with fail
    refine (fill_any o.v w0 W _ HS.out).mono ?_
    rintro e w2 ⟨A2, c2, rfl, hs⟩
    have HS2 := Lib.hid hs.row_rb
    clear hs
    go_wp2_with fail
    refine ((HLf.out ▸ lend_any A2 c2 (fill o.v) w2 HS2.out.rd (by rw [HLf.out]; decide)) : Calls _ _ #[.slice A2 512 c2] w2 _).mono ?_
    rintro e w3 ⟨g, rfl, hg1, hg2, hg3⟩
    rw [HLf.out]
    have HS3 := Lib.hid (HS2.out.right.take hg3 hg1 hg2)
    have q1 := HS3.out.up2.cell 1
    have q2 := HS3.out.up2.cell 2
    clear hg1 hg2 hg3
    go_wp2_with fail
    go_region_held3 (fun w' => w'.cell? ⟨B, 1, none⟩ = some (.int .i64 o.n) ∧ w'.cell? ⟨B, 2, none⟩ = some (.int .i64 o.v)) (first | exact ⟨s1, s2⟩ | exact ⟨r1, r2⟩ | exact ⟨t1, t2⟩ | exact ⟨u1, u2⟩ | exact ⟨q1, q2⟩ | exact ⟨z1, z2⟩ | go_keep)
      (first
        | (go_at_call 9; refine (num_any _ _).mono ?_; rintro e w' ⟨rfl, rfl⟩)
        | (go_at_call 11; refine (write_at (b := fill o.v) HS3.out.drew.up3 (marked_rd HS3.out.drew.at) HLf.out HWr.out (by decide) HSm.out.writes HSm.out.pend HSm.out.armed).mono ?_; rintro e w4 ⟨rfl, hs⟩; have HS4 := Lib.hid hs; clear hs; have r1 := HS4.out.up3.cell 1; have r2 := HS4.out.up3.cell 2)
        | (go_at_call 12; refine (fill_any o.v w0 w6 _ HS6.out).mono ?_; rintro e w7 ⟨A7, c7, rfl, hs⟩; have HS7 := Lib.hid (Sat.row_rb hs); clear hs; have u1 := HS7.out.up6.cell 1; have u2 := HS7.out.up6.cell 2)
        | (go_at_call 12; refine (fill_any o.v w0 w4 _ HS4.out).mono ?_; rintro e w5 ⟨A5, c5, rfl, hs⟩; have HS5 := Lib.hid (Sat.row_rb hs); clear hs; have s1 := HS5.out.up4.cell 1; have s2 := HS5.out.up4.cell 2)
        | (go_at_call 36; refine (rWrite_at (b := fill o.v) HS5.out.up5 HS5.out.rd HLf.out HWr.out (by decide) HSm.out).mono ?_; rintro e w6 ⟨rfl, hs⟩; have HS6 := Lib.hid hs; clear hs; have t1 := HS6.out.up5.cell 1; have t2 := HS6.out.up5.cell 2)
        | (go_at_call 37; refine ((HLf.out ▸ back_yes g c7 A7 (fill o.v) w7 HS7.out.up5.at HS7.out.rd (by rw [HLf.out]; decide)) : Calls _ _ #[.slice (some ⟨g, 0, none⟩) 512 514, .slice A7 512 c7] w7 _).mono ?_; rintro e w8 ⟨rfl, hch⟩; obtain ⟨o8, hs8⟩ := HS7.out.up5.turnAny hch; have HS8 := Lib.hid hs8; clear hch hs8; have z1 := HS8.out.up6.cell 1; have z2 := HS8.out.up6.cell 2))
    go_wp2_with fail
    go_ret
    refine ⟨rfl, ?_⟩
    rw [HST.out, HWr.out]
    exact Sat.right (A := Ow g o8 * (Rb A7 (fill o.v) * (Rb A5 (fill o.v) * Pt B 53 #[.int .i64 o.do_, .int .i64 o.n, .int .i64 o.v, .slice o.kp o.keep.length o.kc, .int .i64 o.torn, .int .i64 o.bytes]))) (HS8.out.of (by unfold DoneP; ac_rfl))
  · have HST : Hid (D.step o = D.flush.1) := hst
    clear hst
    rw [show (((2 : Nat) : Int)) = 2 from rfl]
    obtain ⟨D1, k, hfl⟩ : ∃ D1 k, D.flush = (D1, k) := ⟨_, _, rfl⟩
    have HFl := Lib.hid hfl
    have ecc : (k == k) = true := beq_self_eq_true _
    clear hfl
    go_wp2_with fail
    refine (flush_at HS.out.up2 HFl.out HSm.out.pend).mono ?_
    rintro e w2 ⟨rfl, hs⟩
    have HS2 := Lib.hid hs
    clear hs
    go_wp2_with (first
      | (go_at_call 9; refine (num_any _ _).mono ?_; rintro e w' ⟨rfl, rfl⟩)
      | (go_at_call 38; refine (rFlush_at HS2.out.up3 HFl.out HSm.out.pend).mono ?_; rintro e w3 ⟨rfl, hs⟩; have HS3 := Lib.hid hs; clear hs))
    go_ret
    refine ⟨rfl, ?_⟩
    rw [HST.out, HFl.out]
    exact Sat.right (A := Pt B 53 #[.int .i64 o.do_, .int .i64 o.n, .int .i64 o.v, .slice o.kp o.keep.length o.kc, .int .i64 o.torn, .int .i64 o.bytes]) (HS3.out.of (by unfold DoneP; ac_rfl))
  · have HST : Hid (D.step o = { D with armed := o.n.toNat }) := hst
    clear hst
    rw [show (((3 : Nat) : Int)) = 3 from rfl]
    go_wp2_with fail
    refine (arm_any d D o.n w0 W _ HS.out.up2).mono ?_
    rintro e w2 ⟨rfl, hs⟩
    have HS2 := Lib.hid hs
    have q1 := HS2.out.up2.cell 1
    clear hs
    go_wp2_with fail
    refine (rArm_any r D o.n w0 w2 _ HS2.out.up3).mono ?_
    rintro e w3 ⟨rfl, hs⟩
    have HS3 : Hid (Sat w0 (Pt B 53 #[.int .i64 o.do_, .int .i64 o.n, .int .i64 o.v, .slice o.kp o.keep.length o.kc, .int .i64 o.torn, .int .i64 o.bytes] * DoneP d r { D with armed := o.n.toNat } o F) w3) := Lib.hid (hs.of (by unfold DoneP; ac_rfl))
    clear hs
    generalize hD1 : ({ D with armed := o.n.toNat } : Dk) = D1 at *
    obtain ⟨p3, p5⟩ := Sat.rdHead HS3.out.right.up2
    have e1 : (D1.off == D1.off) = true := beq_self_eq_true _
    have e2 : (((D1.pend.length : Nat) : Int) == ((D1.pend.length : Nat) : Int)) = true := beq_self_eq_true _
    have e3 : (((D1.writes : Nat) : Int) == ((D1.writes : Nat) : Int)) = true := beq_self_eq_true _
    go_wp2_with fail
    go_region_held3 (fun w' => w'.cell? ⟨r, 3, none⟩ = some (.int .i64 D1.writes) ∧ w'.cell? ⟨r, 5, none⟩ = some (.bool D1.off)) (first | exact ⟨p3, p5⟩ | go_keep)
      (first
        | (go_at_call 22; refine (off_any d D1 w0 _ _ (by exact HS3.out.right.drew)).mono ?_; rintro e w' ⟨rfl, hww⟩; subst hww)
        | (go_at_call 21; refine (pending_any d D1 w0 _ _ (by exact HS3.out.right.drew)).mono ?_; rintro e w' ⟨rfl, hww⟩; subst hww)
        | (go_at_call 29; refine (rPending_any r D1 w0 _ _ (by exact HS3.out.right.up2.drew)).mono ?_; rintro e w' ⟨rfl, hww⟩; subst hww)
        | (go_at_call 19; refine (writes_any d D1 w0 _ _ (by exact HS3.out.right.drew)).mono ?_; rintro e w' ⟨rfl, hww⟩; subst hww))
    go_wp2_with fail
    go_ret
    refine ⟨rfl, ?_⟩
    rw [HST.out]
    exact HS3.out.right.drew
  · have HST : Hid (D.step o = { D with off := true }) := hst
    clear hst
    rw [show (((4 : Nat) : Int)) = 4 from rfl]
    go_wp2_with fail
    refine (cut_any d D w0 W _ HS.out.up2).mono ?_
    rintro e w2 ⟨rfl, hs⟩
    have HS2 := Lib.hid hs
    clear hs
    go_wp2_with fail
    refine (rCut_any r D w0 w2 _ HS2.out.up3).mono ?_
    rintro e w3 ⟨rfl, hs⟩
    have HS3 : Hid (Sat w0 (Pt B 53 #[.int .i64 o.do_, .int .i64 o.n, .int .i64 o.v, .slice o.kp o.keep.length o.kc, .int .i64 o.torn, .int .i64 o.bytes] * DoneP d r { D with off := true } o F) w3) := Lib.hid (hs.of (by unfold DoneP; ac_rfl))
    clear hs
    generalize hD1 : ({ D with off := true } : Dk) = D1 at *
    obtain ⟨p3, p5⟩ := Sat.rdHead HS3.out.right.up2
    have e1 : (D1.off == D1.off) = true := beq_self_eq_true _
    have e2 : (((D1.pend.length : Nat) : Int) == ((D1.pend.length : Nat) : Int)) = true := beq_self_eq_true _
    have e3 : (((D1.writes : Nat) : Int) == ((D1.writes : Nat) : Int)) = true := beq_self_eq_true _
    go_wp2_with fail
    go_region_held3 (fun w' => w'.cell? ⟨r, 3, none⟩ = some (.int .i64 D1.writes) ∧ w'.cell? ⟨r, 5, none⟩ = some (.bool D1.off)) (first | exact ⟨p3, p5⟩ | go_keep)
      (first
        | (go_at_call 22; refine (off_any d D1 w0 _ _ (by exact HS3.out.right.drew)).mono ?_; rintro e w' ⟨rfl, hww⟩; subst hww)
        | (go_at_call 21; refine (pending_any d D1 w0 _ _ (by exact HS3.out.right.drew)).mono ?_; rintro e w' ⟨rfl, hww⟩; subst hww)
        | (go_at_call 29; refine (rPending_any r D1 w0 _ _ (by exact HS3.out.right.up2.drew)).mono ?_; rintro e w' ⟨rfl, hww⟩; subst hww)
        | (go_at_call 19; refine (writes_any d D1 w0 _ _ (by exact HS3.out.right.drew)).mono ?_; rintro e w' ⟨rfl, hww⟩; subst hww))
    go_wp2_with fail
    go_ret
    refine ⟨rfl, ?_⟩
    rw [HST.out]
    exact HS3.out.right.drew
  · have HST : Hid (D.step o = D.on o.keep o.torn o.bytes) := hst
    clear hst
    rw [show (((5 : Nat) : Int)) = 5 from rfl]
    go_wp2_with fail
    refine (on_any d D o.kp o.kc o.keep o.torn o.bytes w0 W (RDisk r D * (Pt B 53 #[.int .i64 o.do_, .int .i64 o.n, .int .i64 o.v, .slice o.kp o.keep.length o.kc, .int .i64 o.torn, .int .i64 o.bytes] * F)) (HS.out.of (by unfold DoneP; ac_rfl)) HSm.out.pend HKl.out).mono ?_
    rintro e w2 ⟨rfl, hs⟩
    have HS2 := Lib.hid hs
    have q3 := HS2.out.up4.cell 3
    have q4 := HS2.out.up4.cell 4
    have q5 := HS2.out.up4.cell 5
    clear hs
    go_wp2_with fail
    refine (rOn_any r D o.kp o.kc o.keep o.torn o.bytes w0 w2 (Disk d (D.on o.keep o.torn o.bytes) * (Pt B 53 #[.int .i64 o.do_, .int .i64 o.n, .int .i64 o.v, .slice o.kp o.keep.length o.kc, .int .i64 o.torn, .int .i64 o.bytes] * F)) (HS2.out.of (by ac_rfl)) HSm.out.pend HKl.out).mono ?_
    rintro e w3 ⟨rfl, hs⟩
    have HS3 : Hid (Sat w0 (Pt B 53 #[.int .i64 o.do_, .int .i64 o.n, .int .i64 o.v, .slice o.kp o.keep.length o.kc, .int .i64 o.torn, .int .i64 o.bytes] * DoneP d r (D.on o.keep o.torn o.bytes) o F) w3) := Lib.hid (hs.of (by unfold DoneP; ac_rfl))
    clear hs
    generalize hD1 : D.on o.keep o.torn o.bytes = D1 at *
    obtain ⟨p3, p5⟩ := Sat.rdHead HS3.out.right.up2
    have e1 : (D1.off == D1.off) = true := beq_self_eq_true _
    have e2 : (((D1.pend.length : Nat) : Int) == ((D1.pend.length : Nat) : Int)) = true := beq_self_eq_true _
    have e3 : (((D1.writes : Nat) : Int) == ((D1.writes : Nat) : Int)) = true := beq_self_eq_true _
    go_wp2_with fail
    go_region_held3 (fun w' => w'.cell? ⟨r, 3, none⟩ = some (.int .i64 D1.writes) ∧ w'.cell? ⟨r, 5, none⟩ = some (.bool D1.off)) (first | exact ⟨p3, p5⟩ | go_keep)
      (first
        | (go_at_call 22; refine (off_any d D1 w0 _ _ (by exact HS3.out.right.drew)).mono ?_; rintro e w' ⟨rfl, hww⟩; subst hww)
        | (go_at_call 21; refine (pending_any d D1 w0 _ _ (by exact HS3.out.right.drew)).mono ?_; rintro e w' ⟨rfl, hww⟩; subst hww)
        | (go_at_call 29; refine (rPending_any r D1 w0 _ _ (by exact HS3.out.right.up2.drew)).mono ?_; rintro e w' ⟨rfl, hww⟩; subst hww)
        | (go_at_call 19; refine (writes_any d D1 w0 _ _ (by exact HS3.out.right.drew)).mono ?_; rintro e w' ⟨rfl, hww⟩; subst hww))
    go_wp2_with fail
    go_ret
    refine ⟨rfl, ?_⟩
    rw [HST.out]
    exact HS3.out.right.drew
  · have HST : Hid (D.step o = D) := hst
    clear hst
    rw [show (((6 : Nat) : Int)) = 6 from rfl]
    obtain ⟨p3, p5⟩ := Sat.rdHead HS.out.right.up2
    have e1 : (D.off == D.off) = true := beq_self_eq_true _
    have e2 : (((D.pend.length : Nat) : Int) == ((D.pend.length : Nat) : Int)) = true := beq_self_eq_true _
    have e3 : (((D.writes : Nat) : Int) == ((D.writes : Nat) : Int)) = true := beq_self_eq_true _
    go_wp2_with fail
    go_region_held3 (fun w' => w'.cell? ⟨r, 3, none⟩ = some (.int .i64 D.writes) ∧ w'.cell? ⟨r, 5, none⟩ = some (.bool D.off)) (first | exact ⟨p3, p5⟩ | go_keep)
      (first
        | (go_at_call 22; refine (off_any d D w0 _ _ (by exact HS.out.right.drew)).mono ?_; rintro e w' ⟨rfl, hww⟩; subst hww)
        | (go_at_call 21; refine (pending_any d D w0 _ _ (by exact HS.out.right.drew)).mono ?_; rintro e w' ⟨rfl, hww⟩; subst hww)
        | (go_at_call 29; refine (rPending_any r D w0 _ _ (by exact HS.out.right.up2.drew)).mono ?_; rintro e w' ⟨rfl, hww⟩; subst hww)
        | (go_at_call 19; refine (writes_any d D w0 _ _ (by exact HS.out.right.drew)).mono ?_; rintro e w' ⟨rfl, hww⟩; subst hww))
    go_wp2_with fail
    go_ret
    refine ⟨rfl, ?_⟩
    rw [HST.out]
    exact HS.out.right.drew
  · have HST : Hid (D.step o = (D.write o.n (List.replicate (bits .and .i64 o.v 1023).toNat 0)).1) := hst
    clear hst
    rw [show (((7 : Nat) : Int)) = 7 from rfl]
    have HS0 : Hid (Sat w0 (Pt B 53 #[.int .i64 o.do_, .int .i64 o.n, .int .i64 o.v, .slice o.kp o.keep.length o.kc, .int .i64 o.torn, .int .i64 o.bytes] * (Disk d D * (RDisk r D * (Ro o.kp (o.keep.map Value.bool) * F)))) W) := HS
    have hm0 := i64_and_le o.v 1023 (by omega)
    obtain ⟨m, hm⟩ : ∃ m : Nat, bits .and .i64 o.v 1023 = (m : Int) := ⟨(bits .and .i64 o.v 1023).toNat, by have h1 : 0 ≤ bits .and .i64 o.v 1023 := hm0.1; omega⟩
    have hm1 : m ≤ 1023 := by have h1 : bits .and .i64 o.v 1023 ≤ 1023 := hm0.2; omega
    have HST2 : Hid (D.step o = (D.write o.n (List.replicate m 0)).1) := by have h1 := HST.out; rw [hm, Int.toNat_natCast] at h1; exact h1
    have hmk := make_bytes m (by omega)
    obtain ⟨D1, k, hwr⟩ : ∃ D1 k, D.write o.n (List.replicate m 0) = (D1, k) := ⟨_, _, rfl⟩
    have HWr := Lib.hid hwr
    have ekk : (k == k) = true := beq_self_eq_true _
    have HLr : Hid ((List.replicate m (0 : UInt8)).length = m) := List.length_replicate ..
    clear hwr hm0
    have q6 := fun o' => (HS0.out.alloc' o').cell 1
    have q7 := fun o' => (HS0.out.alloc' o').cell 2
    have HSA := Lib.hid (HS0.out.made (b := W.heap.size) (n := m) rfl (by omega)).drew
    have HSB := Lib.hid ((HS0.out.made (b := W.heap.size) (n := m) rfl (by omega)).made (b := W.heap.size + 1) (n := m) (by simp) (by omega)).drew
    have q8 := fun o' => ((HS0.out.made (b := W.heap.size) (n := m) rfl (by omega)).alloc' o').up2.cell 1
    have q9 := fun o' => ((HS0.out.made (b := W.heap.size) (n := m) rfl (by omega)).alloc' o').up2.cell 2
    go_wp2_with fail
    go_region_held3 (fun w' => w'.cell? ⟨B, 1, none⟩ = some (.int .i64 o.n) ∧ w'.cell? ⟨B, 2, none⟩ = some (.int .i64 o.v)) (first | exact ⟨q1, q2⟩ | exact ⟨r1, r2⟩ | exact ⟨t1, t2⟩ | exact ⟨q6 _, q7 _⟩ | exact ⟨q8 _, q9 _⟩ | exact ⟨r3 _, r4 _⟩ | go_keep)
      (first
        | (go_at_call 9; refine (num_any _ _).mono ?_; rintro e w' ⟨rfl, rfl⟩)
        | (go_at_call 11; (with_reducible refine (write_at (b := List.replicate m 0) HSA.out.up3 HSA.out.rd HLr.out HWr.out (by omega) HSm.out.writes HSm.out.pend HSm.out.armed).mono ?_); rintro e w4 ⟨rfl, hs⟩; have HS4 := Lib.hid hs; clear hs; have r1 := HS4.out.up3.cell 1; have r2 := HS4.out.up3.cell 2; have r3 := fun o' => (HS4.out.alloc' o').up3.cell 1; have r4 := fun o' => (HS4.out.alloc' o').up3.cell 2; have HS5 := Lib.hid (HS4.out.made (b := w4.heap.size) (n := m) rfl (by omega)))
        | (go_at_call 11; (with_reducible refine (write_at (b := List.replicate m 0) HSB.out.up4 HSB.out.up2.rd HLr.out HWr.out (by omega) HSm.out.writes HSm.out.pend HSm.out.armed).mono ?_); rintro e w4 ⟨rfl, hs⟩; have HS4b := Lib.hid hs; clear hs; have r1 := HS4b.out.up4.cell 1; have r2 := HS4b.out.up4.cell 2)
        | (go_at_call 11; (with_reducible refine (write_at (b := List.replicate m 0) HSB.out.up4 HSB.out.rd HLr.out HWr.out (by omega) HSm.out.writes HSm.out.pend HSm.out.armed).mono ?_); rintro e w4 ⟨rfl, hs⟩; have HS4b := Lib.hid hs; clear hs; have r1 := HS4b.out.up4.cell 1; have r2 := HS4b.out.up4.cell 2)
        | (go_at_call 36; (with_reducible refine (rWrite_at (b := List.replicate m 0) HS5.out.up5 HS5.out.rd HLr.out HWr.out (by omega) HSm.out).mono ?_); rintro e w6 ⟨rfl, hs⟩; have HS6 := Lib.hid hs; clear hs; have t1 := HS6.out.up5.cell 1; have t2 := HS6.out.up5.cell 2)
        | (go_at_call 36; (with_reducible refine (rWrite_at (b := List.replicate m 0) HS4b.out.up5 HS4b.out.up2.rd HLr.out HWr.out (by omega) HSm.out).mono ?_); rintro e w6 ⟨rfl, hs⟩; have HS6 := Lib.hid hs; clear hs; have t1 := HS6.out.up5.cell 1; have t2 := HS6.out.up5.cell 2)
        | (go_at_call 36; (with_reducible refine (rWrite_at (b := List.replicate m 0) HS4b.out.up5 HS4b.out.up3.rd HLr.out HWr.out (by omega) HSm.out).mono ?_); rintro e w6 ⟨rfl, hs⟩; have HS6 := Lib.hid hs; clear hs; have t1 := HS6.out.up5.cell 1; have t2 := HS6.out.up5.cell 2))
    all_goals
      go_wp2_with fail
      go_ret
      refine ⟨rfl, ?_⟩
      rw [HST2.out, HWr.out]
      first
        | exact Sat.right (A := Rb (some ⟨w4.heap.size, 0, none⟩) (List.replicate m 0) * (Rb (some ⟨W.heap.size, 0, none⟩) (List.replicate m 0) * Pt B 53 #[.int .i64 o.do_, .int .i64 o.n, .int .i64 o.v, .slice o.kp o.keep.length o.kc, .int .i64 o.torn, .int .i64 o.bytes])) (HS6.out.of (by unfold DoneP; ac_rfl))
        | exact Sat.right (A := Rb (some ⟨W.heap.size + 1, 0, none⟩) (List.replicate m 0) * (Rb (some ⟨W.heap.size, 0, none⟩) (List.replicate m 0) * Pt B 53 #[.int .i64 o.do_, .int .i64 o.n, .int .i64 o.v, .slice o.kp o.keep.length o.kc, .int .i64 o.torn, .int .i64 o.bytes])) (HS6.out.of (by unfold DoneP; ac_rfl))
end Go.Proofs.Ytiimlbkccoofmaa
