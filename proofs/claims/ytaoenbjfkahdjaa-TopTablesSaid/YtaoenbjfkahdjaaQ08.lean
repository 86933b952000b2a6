/- Joined, as they were built one by one: TabRd2 TabRd3 TabFlt TabCont. -/
import Derived.Test.YtaoenbjfkahdjaaQ04
import Derived.Test.YtaoenbjfkahdjaaQ05
import Derived.Test.YtaoenbjfkahdjaaQ06
import Derived.Test.YtaoenbjfkahdjaaQ07
namespace Go.Proofs.Ytaoenbjfkahdjaa
open Go.RowKit
set_option linter.unusedVariables false
set_option maxRecDepth 100000

theorem takeP_len' (n : Nat) (q : List UInt8) (s : Bool) : (takeP n q s).1.length ≤ n := by
  unfold takeP
  split
  · simp; omega
  · simp; omega
theorem takeP_len (n : Nat) (hn : n ≤ 8) (q : List UInt8) (s : Bool) : (takeP n q s).1.length ≤ n := by
  unfold takeP
  split
  · simp; omega
  · simp; omega
theorem takeP_le (n : Nat) (q : List UInt8) (s : Bool) : (takeP n q s).2.1.length ≤ q.length := by
  unfold takeP
  split
  · simp
  · simp
theorem Rdr.len {w0 w : World} {R : Nat} {F : SP} {q : List UInt8} {s : Bool} (h : Rdr w0 R F q s w) : q.length ≤ maxLen := by
  obtain ⟨A, c, _, _, h1, h2⟩ := h
  omega
theorem Rdr.allocP {w0 w : World} {R : Nat} {F : SP} {q : List UInt8} {s : Bool} (h : Rdr w0 R F q s w) (t : TypeId) (cs : Array Value) : Rdr w0 R (Pt w.heap.size t cs * F) q s (w.alloc (.cells cs t)) := by
  obtain ⟨A, c, hs, h1, h2⟩ := h
  exact ⟨A, c, (hs.allocPt t cs).up2, h1, h2⟩
theorem Rdr.mk' {w0 w : World} {R : Nat} {F : SP} {q : List UInt8} {s : Bool} (h : Rdr w0 R F q s w) : ∃ A c, Sat w0 (Pt R 113 #[.slice A q.length c, .bool s] * F) w ∧ Rd w0 A q ∧ q.length ≤ c ∧ c ≤ maxLen := h
/-- A number of at most so many bytes. -/
theorem wrap_num {n : Nat} (hn : n ≤ 7) {q : List UInt8} {s : Bool} {T : List UInt8 × List UInt8 × Bool} (h : takeP n q s = T) : IntKind.i64.wrap (getN T.1 : Int) = (getN T.1 : Int) := by
  have h1 := takeP_len n (by omega) q s
  rw [h] at h1
  have h2 := getN_lt56 T.1 (by omega)
  rw [IntKind.wrap_i64]
  omega
set_option maxHeartbeats 1000000 in
theorem number_any (n : Nat) (m : Int) (hm : m = n) (hn : n ≤ 8) (R : Nat) (F : SP) (q : List UInt8) (s : Bool) (T : List UInt8 × List UInt8 × Bool) (z : Int) (w0 w : World) (h : Rdr w0 R F q s w) (hT : takeP n q s = T) (hz : IntKind.i64.wrap (getN T.1 : Int) = z) (hql : q.length ≤ 140737488355328) :
    Calls Try.prog 62 #[.pointer (some ⟨R, 0, none⟩), .int .i64 m] w fun e w' => e = .returned (.int .i64 z) ∧ Rdr w0 R F T.2.1 T.2.2 w' := by
  subst hm
  have H := Lib.hid h
  have HZ := Lib.hid hz
  have hl := takeP_len n hn q s
  have HT := Lib.hid hT
  rw [hT] at hl
  clear h hz hT
  have hw : IntKind.i64.wrap (getN T.1 : Int) = z := HZ.out
  go_enter Try.func62, Try.ntmps62
  go_wp2_with (first
    | (go_at_call 61; refine (take_any n (by omega) R F q s w0 w H.out hql).mono ?_; rintro x w1 ⟨B, d, rfl, hr, -, -, -, hR⟩; rw [HT.out] at hr hR ⊢; have HR := Lib.hid hr; have HW := Lib.hid hR; clear hr hR)
    | (go_at_call 94; refine (oget_any B d T.1 w1 HR.out (by omega)).mono ?_; rintro x w2 ⟨rfl, rfl⟩))
  go_ret
  exact ⟨rfl, HW.out⟩
/-- The next entry behind a key. -/
def entP (al : List UInt8) (q : List UInt8) (s : Bool) : Ent × List UInt8 × Bool :=
  let t1 := takeP 1 q s
  let t2 := takeP 1 t1.2.1 t1.2.2
  let t3 := takeP 8 t2.2.1 t2.2.2
  let t4 := takeP 1 t3.2.1 t3.2.2
  let t5 := takeP 2 t4.2.1 t4.2.2
  let t6 := takeP (getN t2.1) t5.2.1 (t5.2.2 || decide (al.length < getN t1.1))
  let t7 := takeP (getN t5.1) t6.2.1 t6.2.2
  (⟨if t6.2.2 then [] else al.take (getN t1.1) ++ t6.1, t7.1, IntKind.i64.wrap (getN t3.1 : Int), decide (getN t4.1 = 1)⟩, t7.2)
end Go.Proofs.Ytaoenbjfkahdjaa
namespace Go.Proofs.Ytaoenbjfkahdjaa
open Go.RowKit
set_option linter.unusedVariables false
set_option maxRecDepth 100000

/-- What the reader's entry tells. -/
def ReadE (w0 : World) (R : Nat) (F : SP) (p : Ent × List UInt8 × Bool) (x : Ending) (w' : World) : Prop :=
  ∃ g : En, x = .returned (enA g) ∧ g.ent = p.1 ∧ Rdr w0 R (Row 5 1 (slv' g.key) g.key.2.2.length (g.key.2.2.map bv) * (Row 5 1 (slv' g.value) g.value.2.2.length (g.value.2.2.map bv) * F)) p.2.1 p.2.2 w'
theorem two_rd {w' : World} {A B : Option Addr} {c d : Nat} {l m : List UInt8} (g : Nat) (h : RdV w' (some ⟨g, 0, none⟩) [.slice A l.length c, .slice B m.length d]) (h1 : Rd w' A l) (h2 : Rd w' B m) : RdL w' (some ⟨g, 0, none⟩) [(A, c, l), (B, d, m)] := by
  refine ⟨h, fun x hx => ?_⟩
  simp only [List.mem_cons, List.not_mem_nil, or_false] at hx
  rcases hx with rfl | rfl
  · exact h1
  · exact h2
set_option maxHeartbeats 2000000 in
theorem rentry_any (aA : Option Addr) (ac : Nat) (al : List UInt8) (R : Nat) (F : SP) (q : List UInt8) (s : Bool) (w0 w : World) (h : Rdr w0 R F q s w) (hql : q.length ≤ 140737488355328)
    (hal : ∀ (X : SP) (W : World), Sat w0 (X * F) W → Rd W aA al) (hac : al.length ≤ ac) (ham : ac ≤ maxLen) (hall : al.length ≤ 100000000000000) :
    Calls Try.prog 63 #[.pointer (some ⟨R, 0, none⟩), .slice aA al.length ac] w (ReadE w0 R F (entP al q s)) := by
  obtain ⟨T1, hT1⟩ : ∃ T, takeP 1 q s = T := ⟨_, rfl⟩
  obtain ⟨T2, hT2⟩ : ∃ T, takeP 1 T1.2.1 T1.2.2 = T := ⟨_, rfl⟩
  obtain ⟨T3, hT3⟩ : ∃ T, takeP 8 T2.2.1 T2.2.2 = T := ⟨_, rfl⟩
  obtain ⟨T4, hT4⟩ : ∃ T, takeP 1 T3.2.1 T3.2.2 = T := ⟨_, rfl⟩
  obtain ⟨T5, hT5⟩ : ∃ T, takeP 2 T4.2.1 T4.2.2 = T := ⟨_, rfl⟩
  obtain ⟨s6, hs6⟩ : ∃ b, (T5.2.2 || decide (al.length < getN T1.1)) = b := ⟨_, rfl⟩
  obtain ⟨T6, hT6⟩ : ∃ T, takeP (getN T2.1) T5.2.1 s6 = T := ⟨_, rfl⟩
  obtain ⟨T7, hT7⟩ : ∃ T, takeP (getN T5.1) T6.2.1 T6.2.2 = T := ⟨_, rfl⟩
  obtain ⟨z3, hz3⟩ : ∃ z, IntKind.i64.wrap (getN T3.1 : Int) = z := ⟨_, rfl⟩
  obtain ⟨dd, hdd⟩ : ∃ b, decide ((getN T4.1 : Int) = 1) = b := ⟨_, rfl⟩
  have HP : Hid (entP al q s = (⟨if T6.2.2 then [] else al.take (getN T1.1) ++ T6.1, T7.1, z3, dd⟩, T7.2)) := by
    unfold Hid entP
    simp only [hT1, hT2, hT3, hT4, hT5, hs6, hT6, hT7, hz3]
    rw [← hdd]
    rw [show decide (getN T4.1 = 1) = decide ((getN T4.1 : Int) = 1) by apply decide_eq_decide.2; omega]
  have b1 : getN T1.1 < 256 := by have := takeP_len 1 (by omega) q s; rw [hT1] at this; exact Nat.lt_of_lt_of_le (getN_lt _) (Nat.pow_le_pow_right (by omega) this)
  have b2 : getN T2.1 < 256 := by have := takeP_len 1 (by omega) T1.2.1 T1.2.2; rw [hT2] at this; exact Nat.lt_of_lt_of_le (getN_lt _) (Nat.pow_le_pow_right (by omega) this)
  have b5 : getN T5.1 < 65536 := by have := takeP_len 2 (by omega) T4.2.1 T4.2.2; rw [hT5] at this; exact Nat.lt_of_lt_of_le (getN_lt _) (Nat.pow_le_pow_right (by omega) this)
  have y1 : T1.2.1.length ≤ 140737488355328 := by have := takeP_le 1 q s; rw [hT1] at this; omega
  have y2 : T2.2.1.length ≤ 140737488355328 := by have := takeP_le 1 T1.2.1 T1.2.2; rw [hT2] at this; omega
  have y3 : T3.2.1.length ≤ 140737488355328 := by have := takeP_le 8 T2.2.1 T2.2.2; rw [hT3] at this; omega
  have y4 : T4.2.1.length ≤ 140737488355328 := by have := takeP_le 1 T3.2.1 T3.2.2; rw [hT4] at this; omega
  have y5 : T5.2.1.length ≤ 140737488355328 := by have := takeP_le 2 T4.2.1 T4.2.2; rw [hT5] at this; omega
  have y6 : T6.2.1.length ≤ 140737488355328 := by have := takeP_le (getN T2.1) T5.2.1 s6; rw [hT6] at this; omega
  have HW1 := Lib.hid (wrap_num (by omega) hT1); have HW2 := Lib.hid (wrap_num (by omega) hT2); have HW4 := Lib.hid (wrap_num (by omega) hT4); have HW5 := Lib.hid (wrap_num (by omega) hT5); have HW3 := Lib.hid hz3
  have HT1 := Lib.hid hT1; have HT2 := Lib.hid hT2; have HT3 := Lib.hid hT3; have HT4 := Lib.hid hT4; have HT5 := Lib.hid hT5; have HT6 := Lib.hid hT6; have HT7 := Lib.hid hT7
  have HS6 := Lib.hid hs6
  have HDD := Lib.hid hdd
  have HAL := Lib.hid hal
  obtain ⟨n1, hn1⟩ : ∃ n, getN T1.1 = n := ⟨_, rfl⟩
  obtain ⟨n2, hn2⟩ : ∃ n, getN T2.1 = n := ⟨_, rfl⟩
  obtain ⟨n4, hn4⟩ : ∃ n, getN T4.1 = n := ⟨_, rfl⟩
  obtain ⟨n5, hn5⟩ : ∃ n, getN T5.1 = n := ⟨_, rfl⟩
  rw [hn1] at HW1 HP HS6 b1
  rw [hn2] at HW2 HT6 b2
  rw [hn4] at HW4 HDD
  rw [hn5] at HW5 HT7 b5
  obtain ⟨kk, hkk⟩ : ∃ k, (if T6.2.2 = true then [] else al.take n1 ++ T6.1) = k := ⟨_, rfl⟩
  rw [HP.out, hkk]
  have HKK := Lib.hid hkk
  clear hkk
  have H0 := Lib.hid (h.allocP 34 #[.slice none 0 0, .slice none 0 0, .int .i64 0, .bool false])
  unfold maxLen at ham
  clear h hT1 hT2 hT3 hT4 hT5 hs6 hT6 hT7 hz3 hdd hal
  have HN1 := Lib.hid hn1; have HN2 := Lib.hid hn2; have HN4 := Lib.hid hn4; have HN5 := Lib.hid hn5
  clear hn1 hn2 hn4 hn5
  have hwa : IntKind.i64.wrap (n1 : Int) = n1 := HW1.out
  have hwb : IntKind.i64.wrap (n2 : Int) = n2 := HW2.out
  have hdz : ((n4 : Int) == 1) = dd := by rw [← HDD.out]; exact rfl
  go_enter Try.func63, Try.ntmps63

  go_upto_if 25 with (first
    | (go_at_call 62; with_reducible refine (number_any 1 1 rfl (by omega) R _ q s T1 n1 w0 _ H0.out HT1.out (by rw [HN1.out]; exact HW1.out) hql).mono ?_; rintro x w1 ⟨rfl, h1⟩; have H1 := Lib.hid h1; clear h1)
    | (go_at_call 62; with_reducible refine (number_any 1 1 rfl (by omega) R _ T1.2.1 T1.2.2 T2 n2 w0 _ H1.out HT2.out (by rw [HN2.out]; exact HW2.out) y1).mono ?_; rintro x w2 ⟨rfl, h1⟩; have H2 := Lib.hid h1; clear h1)
    | (go_at_call 62; with_reducible refine (number_any 8 8 rfl (by omega) R _ T2.2.1 T2.2.2 T3 z3 w0 _ H2.out HT3.out HW3.out y2).mono ?_; rintro x w3 ⟨rfl, h1⟩; have H3 := Lib.hid h1; clear h1)
    | (go_at_call 62; with_reducible refine (number_any 1 1 rfl (by omega) R _ T3.2.1 T3.2.2 T4 n4 w0 _ H3.out HT4.out (by rw [HN4.out]; exact HW4.out) y3).mono ?_; rintro x w4 ⟨rfl, h1⟩; have H4 := Lib.hid (h1.allocP 34 #[.slice none 0 0, .slice none 0 0, .int .i64 z3, .bool dd]); clear h1)
    | (go_at_call 62; with_reducible refine (number_any 2 2 rfl (by omega) R _ T4.2.1 T4.2.2 T5 n5 w0 _ H4.out HT5.out (by rw [HN5.out]; exact HW5.out) y4).mono ?_; rintro x w5 ⟨rfl, h1⟩; have H5 := Lib.hid h1; clear h1))
  have H5a := H5
  revert H5a
  generalize w4.heap.size = E
  generalize w.heap.size = G
  intro H5a
  have HF : Hid (Rdr w0 R (Pt E 34 #[.slice none 0 0, .slice none 0 0, .int .i64 z3, .bool dd] * (Pt G 34 #[.slice none 0 0, .slice none 0 0, .int .i64 0, .bool false] * F)) T5.2.1 T5.2.2 w5) := H5a
  clear H5 H5a
  have l6 : T6.1.length ≤ n2 := by rw [← HT6.out]; exact takeP_len' _ _ _
  have l7 : T7.1.length ≤ n5 := by rw [← HT7.out]; exact takeP_len' _ _ _
  go_cut [5] from 10 (fun nv wx => ∃ m : Nat, nv = .int .i64 (m : Int) ∧ Hid (s6 = false → m = n1 ∧ n1 ≤ al.length) ∧ Hid (Rdr w0 R (Pt E 34 #[.slice none 0 0, .slice none 0 0, .int .i64 z3, .bool dd] * (Pt G 34 #[.slice none 0 0, .slice none 0 0, .int .i64 0, .bool false] * F)) T5.2.1 s6 wx))
  case first =>
    by_cases hlt : al.length < n1
    · obtain ⟨A, c, hs, ho⟩ := HF.out
      have f1 := hs.frozen 1; have c1 := hs.cell 1
      have HSt := Lib.hid hs
      have HO := Lib.hid ho
      clear hs ho
      go_wp2_with fail
      go_meet
      refine ⟨0, rfl, fun h => ?_, ⟨A, c, ?_, HO.out⟩⟩
      · rw [← HS6.out] at h
        simp [hlt] at h
      · have h9 := HSt.out.set 1 (.bool true)
        rw [← HS6.out, decide_eq_true hlt, Bool.or_true]
        exact h9
    · go_wp2_with fail
      go_meet
      refine ⟨n1, rfl, fun h => ⟨rfl, by omega⟩, ?_⟩
      rw [← HS6.out, decide_eq_false hlt, Bool.or_false]
      exact HF.out
  case rest =>
    obtain ⟨m, rfl, HM, HX⟩ := hcut
    have HX1 := HX
    have k6 : HX1 = HX1 := rfl
    clear k6 HX1
    go_upto_region 8 with (go_at_call 61; (with_reducible refine (take_any n2 (by omega) R _ T5.2.1 s6 w0 _ HX.out y5).mono ?_); rw [HT6.out]; rintro x w6 ⟨B6, d6, rfl, -, hr6, hd6, hm6, h6⟩; have HR6 := Lib.hid hr6; have H6 := Lib.hid h6; clear hr6 h6)
    obtain ⟨A6, c6, hs6, hq6⟩ := H6.out
    have r1 := hs6.cell 1
    have e0 := hs6.up2.cell 0; have e1 := hs6.up2.cell 1; have e2 := hs6.up2.cell 2; have e3 := hs6.up2.cell 3
    have q0 := hs6.up2.frozen 0
    have HS6' := Lib.hid hs6
    have HQ6 := Lib.hid hq6
    clear hs6 hq6
    have hsb : ∃ b, T6.2.2 = b := ⟨_, rfl⟩
    obtain ⟨b6, hb6⟩ := hsb
    rw [hb6] at r1
    have HB6 := Lib.hid hb6
    clear hb6
    go_upto_if 36 with fail
    go_cut [9] from 10 (fun kv wx => ∃ kA kc, Hid (Rdr w0 R (Row 5 1 (.slice kA kk.length kc) kk.length (kk.map bv) * (Pt E 34 #[.slice kA kk.length kc, .slice none 0 0, .int .i64 z3, .bool dd] * (Pt G 34 #[.slice none 0 0, .slice none 0 0, .int .i64 0, .bool false] * F))) T6.2.1 T6.2.2 wx))
    case first =>
      cases b6
      · have hm := HM.out (by
          have h1 := HT6.out
          have h2 := HB6.out
          cases hs : s6 with
          | false => rfl
          | true => rw [hs, takeP_short (.inl rfl)] at h1; rw [← h1] at h2; cases h2)
        obtain ⟨rfl, hle⟩ := hm
        have hle2 : (m : Int) ≤ al.length := by omega
        have hle3 : (m : Int) ≤ ac := by omega
        have htk : (al.take m).length = m := by simp; omega
        have HTk := Lib.hid htk
        have HKe : Hid (kk = al.take m ++ T6.1) := by have h1 := HKK.out; rw [HB6.out] at h1; exact h1.symm
        have hkl : kk.length = m + T6.1.length := by rw [HKe.out, List.length_append, htk]
        clear htk
        have hc6 := HQ6.out.2.1
        have HKl : Hid (kk.length ≤ 140737488355328) := by unfold Hid; omega
        clear hkl hc6
        have hjr : RdL (w6.alloc (.cells #[.slice aA m ac, .slice B6 T6.1.length d6] 32)) (some ⟨w6.heap.size, 0, none⟩) [(aA, ac, al.take m), (B6, d6, T6.1)] := two_rd w6.heap.size (by rw [HTk.out]; exact lit_rdv w6 #[.slice aA m ac, .slice B6 T6.1.length d6] 32) (Rd.take (HAL.out _ _ ((HS6'.out.alloc' _).of (show _ = (Pt R 113 #[.slice A6 T6.2.1.length c6, .bool T6.2.2] * (Pt E 34 #[.slice none 0 0, .slice none 0 0, .int .i64 z3, .bool dd] * Pt G 34 #[.slice none 0 0, .slice none 0 0, .int .i64 0, .bool false])) * F by ac_rfl))) m) ((HR6.out HB6.out).new (HS6'.out.alloc' _).chg)
        have HJR := Lib.hid hjr
        clear hjr
        go_wp2_with fail
        go_at_call 53
        refine (join_any (some ⟨w6.heap.size, 0, none⟩) 2 [(aA, ac, al.take m), (B6, d6, T6.1)] _ HJR.out (by have := HKl.out; rw [HKe.out] at this; simpa [txt] using this) (show 2 ≤ 140737488355328 by omega)).mono ?_
        rintro x w7 ⟨vv, rfl, ho, k7⟩
        rw [show (txt [(aA, ac, al.take m), (B6, d6, T6.1)]).flatten = kk by rw [HKe.out]; simp [txt]] at ho
        obtain ⟨A7, c7, rfl, -⟩ := own_sl ho
        have hs7 := (HS6'.out.alloc' _).gotRow k7 ho
        have z0 := hs7.up3.frozen 0; have z1 := hs7.up3.cell 0
        have HS7 := Lib.hid hs7
        clear ho k7 hs7
        go_wp2_with fail
        go_meet
        have h9 := HS7.out.up3.set 0 (.slice A7 kk.length c7)
        exact ⟨A7, c7, A6, c6, h9.of (by ac_rfl), HQ6.out⟩
      · go_wp2_with fail
        go_meet
        have HKe : kk = [] := by have h1 := HKK.out; rw [HB6.out] at h1; exact h1.symm
        subst HKe
        refine ⟨none, 0, A6, c6, ?_, HQ6.out⟩
        exact (HS6'.out.row_nil 5 1).of (by ac_rfl)
    case rest =>
      obtain ⟨kA, kc, HX7⟩ := hcut
      go_upto_region 11 with (first
        | (go_at_call 61; (with_reducible refine (take_any n5 (by omega) R _ T6.2.1 T6.2.2 w0 _ HX7.out y6).mono ?_); rw [HT7.out]; rintro x w8 ⟨B8, d8, rfl, hr8, -, hd8, hm8, h8⟩; obtain ⟨A8, c8, hs8, hq8⟩ := h8; have HQ8 := Lib.hid hq8; have HS8 := Lib.hid hs8; have HR8 := Lib.hid hr8; clear hs8 hr8 hq8)
        | (go_at_call 53; refine (join_any (some ⟨w8.heap.size, 0, none⟩) 1 [(B8, d8, T7.1)] _ ⟨lit_rdv w8 #[.slice B8 T7.1.length d8] 32, fun y hy => by rw [List.mem_singleton] at hy; subst hy; exact HR8.out.alloc _⟩ (by simp [txt]; omega) (show 1 ≤ 140737488355328 by omega)).mono ?_; rintro x w9 ⟨vv, rfl, ho, k9⟩; rw [show (txt [(B8, d8, T7.1)]).flatten = T7.1 by simp [txt]] at ho; obtain ⟨A9, c9, rfl, -⟩ := own_sl ho; have hs9 := (HS8.out.alloc' _).gotRow k9 ho; have z0 := hs9.up4.frozen 1; have z1 := hs9.up4.cell 1; have HS9 := Lib.hid hs9; clear ho k9 hs9))
      have h10 := HS9.out.up4.set 1 (.slice A9 T7.1.length c9)
      clear z0 z1
      revert h10
      generalize World.setCell w9 _ _ = w10
      intro h10
      have c0 := h10.cell 0; have c1 := h10.cell 1; have c2 := h10.cell 2; have c3 := h10.cell 3
      have d0 := h10.up5.cell 0; have d1 := h10.up5.cell 1; have d2 := h10.up5.cell 2; have d3 := h10.up5.cell 3
      have f0 := h10.up5.frozen 0; have f1 := h10.up5.frozen 1; have f2 := h10.up5.frozen 2; have f3 := h10.up5.frozen 3
      have h11 := (((h10.up5.set 0 (.slice kA kk.length kc)).set 1 (.slice A9 T7.1.length c9)).set 2 (.int .i64 z3)).set 3 (.bool dd)
      have H11 := Lib.hid h11
      clear h10 h11
      go_wp2_with fail
      have h12 := H11.out
      revert h12
      generalize World.setCell _ _ _ = w12
      intro h12
      refine bodyPost_ret (results_cell_row (p := 4) (by kernel_rfl) _ _ G 34 _ (0, 0) _ rfl h12.at Try.underlying34 rfl (by kernel_rfl)) rfl ?_
      refine ⟨⟨(kA, kc, kk), (A9, c9, T7.1), z3, dd⟩, rfl, rfl, A8, c8, ?_, HQ8.out⟩
      have h13 := h12.right.right
      exact h13.of (by unfold slv'; ac_rfl)
end Go.Proofs.Ytaoenbjfkahdjaa
namespace Go.Proofs.Ytaoenbjfkahdjaa
open Go.RowKit
set_option linter.unusedVariables false
set_option maxRecDepth 100000

theorem unlike_len (L : List Ent) : ∀ k, (unlike L k).length ≤ k
  | 0 => by simp [unlike]
  | k + 1 => by
    have h := unlike_len L k
    unfold unlike
    split
    · omega
    · split
      · rw [List.length_append, List.length_singleton]; omega
      · split
        · split
          · omega
          · rw [List.length_append, List.length_singleton]; omega
        · rw [List.length_append, List.length_singleton]; omega
def Filtered (L : List Ent) (w : World) (e : Ending) (w' : World) : Prop := ∃ g h n, e = .returned (.pointer (some ⟨g, 0, none⟩)) ∧ Filt w' g h n n (bitsB L) ∧ w.heap.size ≤ g ∧ w.heap.size ≤ h ∧ Chg No w w' ∧ 8 ≤ n ∧ n ≤ 262144
/-- What holds ahead of an entry. -/
structure FltAt (w : World) (es : List En) (i : Nat) (v : Value) (ks : Rows_) (wr : World) : Prop where
  say : txt ks = unlike (es.map En.ent) i
  mem : ∀ x ∈ ks, ∃ e ∈ es, x = e.key
  few : ks.length ≤ i
  sat : Sat w (Row 32 1 v ks.length (ks.map slOf) * Emp) wr
theorem map_get {es : List En} {i : Nat} (h : i < es.length) : (es.map En.ent)[i]? = some es[i].ent := by rw [List.getElem?_map, List.getElem?_eq_getElem h]; rfl
theorem unlike_zero (es : List En) (h : 0 < es.length) : unlike (es.map En.ent) 1 = [es[0].key.2.2] := by
  unfold unlike
  rw [map_get h]
  rfl
theorem unlike_same (es : List En) (i : Nat) (h : i + 1 < es.length) (hk : es[i].key.2.2 = es[i + 1].key.2.2) : unlike (es.map En.ent) (i + 2) = unlike (es.map En.ent) (i + 1) := by
  conv => lhs; unfold unlike
  rw [map_get h]
  simp only [Nat.add_sub_cancel]
  rw [map_get (show i < es.length by omega)]
  simp only
  rw [if_neg (by omega), if_pos (show es[i].ent.key = es[i + 1].ent.key from hk)]
theorem unlike_new (es : List En) (i : Nat) (h : i + 1 < es.length) (hk : es[i].key.2.2 ≠ es[i + 1].key.2.2) : unlike (es.map En.ent) (i + 2) = unlike (es.map En.ent) (i + 1) ++ [es[i + 1].key.2.2] := by
  conv => lhs; unfold unlike
  rw [map_get h]
  simp only [Nat.add_sub_cancel]
  rw [map_get (show i < es.length by omega)]
  simp only
  rw [if_neg (by omega), if_neg (show ¬ es[i].ent.key = es[i + 1].ent.key from hk)]
  rfl
theorem stay_rdl {wr w8 : World} {KA : Option Addr} {ks : Rows_} {h : Nat} (hk : RdL wr KA ks) (k8 : Chg No wr w8) (hh : wr.heap.size ≤ h) : Stay (One h) w8 (RdL · KA ks) := fun w' k => by
  have hno : ∀ b, b < wr.heap.size → ¬ One h b := fun b hb e => by have e : b = h := e; omega
  refine ⟨(hk.1.new k8).chg k fun b o hx e => ?_, fun x hx => ((hk.2 x hx).new k8).chg k fun b o hx' e => ?_⟩
  · obtain ⟨b', o', e', hlt⟩ := hk.1.lt hx
    rw [e'] at e
    injection e with e
    injection e with e1
    subst e1
    exact hno _ hlt
  · obtain ⟨b', o', e', hlt⟩ := (hk.2 x hx).lt hx'
    rw [e'] at e
    injection e with e
    injection e with e1
    subst e1
    exact hno _ hlt
set_option maxHeartbeats 4000000 in
theorem filtered_any (A : Option Addr) (c : Nat) (es : List En) (w : World) (h : RdV w A (es.flatMap enV)) (hr : EnsR w es) (hc : es.length ≤ c) (hm : c ≤ maxLen) (hn : es.length ≤ 65536) (hsh : ∀ e ∈ es, e.key.2.2.length ≤ 140737488355328) :
    Calls Try.prog 56 #[.slice A es.length c] w (Filtered (es.map En.ent) w) := by
  obtain ⟨i0, hi, hz0, hz1, hz2⟩ := info_parts info_sl
  have Hi := Lib.hid hi; have Hz0 := Lib.hid hz0; have Hz1 := Lib.hid hz1; have Hz2 := Lib.hid hz2
  have HL := Lib.hid h
  have HR := Lib.hid hr
  have HSh := Lib.hid hsh
  unfold maxLen at hm
  clear h hr hsh hi hz0 hz1 hz2
  go_enter Try.func56, Try.ntmps56
  go_wp2_with fail
  go_loopw [3, 10] (fun v iv wr => ∃ (i : Nat) (ks : Rows_), i ≤ es.length ∧ iv = .int .i64 i ∧ Hid (FltAt w es i v ks wr)) (fun _ iv _ => es.length - (intOf iv).toNat)
  case atStart => exact ⟨0, [], by omega, rfl, ⟨rfl, by simp, by simp, ((Sat.start w).row_nil 32 1)⟩⟩
  case round =>
    obtain ⟨i, ks, hi, rfl, HD⟩ := hrel
    obtain ⟨KA, kc, rfl, hk1, hk2⟩ := HD.out.sat.row_sl
    unfold maxLen at hk2
    have hfew := HD.out.few
    by_cases hlt : i < es.length
    · obtain ⟨lb, lo, rfl, hq⟩ := ents_at HL.out (by omega)
      obtain ⟨z0, z1, z2, z3⟩ := hq i hlt
      have a0 := HD.out.sat.chg.cell z0 id; have a1 := HD.out.sat.chg.cell z1 id; have a2 := HD.out.sat.chg.cell z2 id; have a3 := HD.out.sat.chg.cell z3 id
      unfold slv' at a0 a1
      have HE := Lib.hid (HR.out _ (List.getElem_mem hlt))
      have HSE := Lib.hid (HD.out.sat.allocPt 34 #[.slice es[i].key.1 es[i].key.2.2.length es[i].key.2.1, .slice es[i].value.1 es[i].value.2.2.length es[i].value.2.1, .int .i64 es[i].seq, .bool es[i].dead])
      rcases i with _ | i
      · clear z0 z1 z2 z3 hq
        simp only [Nat.zero_mul, Nat.add_zero] at a0 a1 a2 a3
        go_upto_region 5 with fail
        have HSV := HSE
        revert HSV
        generalize World.alloc wr _ = w5
        generalize wr.heap.size = E
        intro HSV
        have HSW : Hid (Sat w (Pt E 34 #[.slice es[0].key.1 es[0].key.2.2.length es[0].key.2.1, .slice es[0].value.1 es[0].value.2.2.length es[0].value.2.1, .int .i64 es[0].seq, .bool es[0].dead] * (Row 32 1 (.slice KA ks.length kc) ks.length (ks.map slOf) * Emp)) w5) := HSV
        clear HSV HSE a0 a1 a2 a3
        refine wp_region_held_drew (S := fun _ => True) (by kernel_rfl) trivial ?_
        intro hS0
        have HSD := Lib.hid HSW.out.drew
        revert HSD
        generalize w5.drew = w6
        intro HSD
        refine rgn_take (i := 0) (v := ?rv1) rfl (by kernel_rfl) (by kernel_rfl) (by kernel_rfl) (fun _ _ _ h => h) (by rfl) ?rh1 (by assumption) ?rr1
        case rh1 => (intro w hSw; (try dsimp only at hSw); go_simp; try with_reducible rfl)
        simp only [Act.put, List.setIfInBounds_toArray, List.set_cons_zero, List.set_cons_succ]
        refine rgn_take (i := 1) (v := ?rv2) rfl (by kernel_rfl) (by kernel_rfl) (by kernel_rfl) (fun _ _ _ h => h) (by rfl) ?rh2 (by assumption) ?rr2
        case rh2 => (intro w hSw; (try dsimp only at hSw); go_simp; try with_reducible rfl)
        simp only [Act.put, List.setIfInBounds_toArray, List.set_cons_zero, List.set_cons_succ]
        refine rgn_take (i := 2) (v := ?rv3) rfl (by kernel_rfl) (by kernel_rfl) (by kernel_rfl) (fun _ _ _ h => h) (by rfl) ?rh3 (by assumption) ?rr3
        case rh3 => (intro w hSw; (try dsimp only at hSw); go_simp; try with_reducible rfl)
        simp only [Act.put, List.setIfInBounds_toArray, List.set_cons_zero, List.set_cons_succ]
        refine rgn_skip (i := 3) rfl (by kernel_rfl) (by kernel_rfl) (by kernel_rfl) (fun _ _ _ h => h) (by rfl) (by assumption) ?_
        simp only [Act.put, List.setIfInBounds_toArray, List.set_cons_zero, List.set_cons_succ]
        refine rgn_skip (i := 4) rfl (by kernel_rfl) (by kernel_rfl) (by kernel_rfl) (fun _ _ _ h => h) (by rfl) (by assumption) ?_
        simp only [Act.put, List.setIfInBounds_toArray, List.set_cons_zero, List.set_cons_succ]
        refine rgn_skip (i := 5) rfl (by kernel_rfl) (by kernel_rfl) (by kernel_rfl) (fun _ _ _ h => h) (by rfl) (by assumption) ?_
        simp only [Act.put, List.setIfInBounds_toArray, List.set_cons_zero, List.set_cons_succ]
        refine rgn_skip (i := 6) rfl (by kernel_rfl) (by kernel_rfl) (by kernel_rfl) (fun _ _ _ h => h) (by rfl) (by assumption) ?_
        simp only [Act.put, List.setIfInBounds_toArray, List.set_cons_zero, List.set_cons_succ]
        refine rgn_skip (i := 7) rfl (by kernel_rfl) (by kernel_rfl) (by kernel_rfl) (fun _ _ _ h => h) (by rfl) (by assumption) ?_
        simp only [Act.put, List.setIfInBounds_toArray, List.set_cons_zero, List.set_cons_succ]
        refine rgn_skip (i := 8) rfl (by kernel_rfl) (by kernel_rfl) (by kernel_rfl) (fun _ _ _ h => h) (by rfl) (by assumption) ?_
        simp only [Act.put, List.setIfInBounds_toArray, List.set_cons_zero, List.set_cons_succ]
        refine rgn_skip (i := 9) rfl (by kernel_rfl) (by kernel_rfl) (by kernel_rfl) (fun _ _ _ h => h) (by rfl) (by assumption) ?_
        simp only [Act.put, List.setIfInBounds_toArray, List.set_cons_zero, List.set_cons_succ]
        refine rgn_skip (i := 10) rfl (by kernel_rfl) (by kernel_rfl) (by kernel_rfl) (fun _ _ _ h => h) (by rfl) (by assumption) ?_
        simp only [Act.put, List.setIfInBounds_toArray, List.set_cons_zero, List.set_cons_succ]
        refine rgn_skip (i := 11) rfl (by kernel_rfl) (by kernel_rfl) (by kernel_rfl) (fun _ _ _ h => h) (by rfl) (by assumption) ?_
        simp only [Act.put, List.setIfInBounds_toArray, List.set_cons_zero, List.set_cons_succ]
        refine rgn_skip (i := 12) rfl (by kernel_rfl) (by kernel_rfl) (by kernel_rfl) (fun _ _ _ h => h) (by rfl) (by assumption) ?_
        simp only [Act.put, List.setIfInBounds_toArray, List.set_cons_zero, List.set_cons_succ]
        refine rgn_take (i := 13) (v := ?rv14) rfl (by kernel_rfl) (by kernel_rfl) (by kernel_rfl) (fun _ _ _ h => h) (by rfl) ?rh14 (by assumption) ?rr14
        case rh14 => (intro w hSw; (try dsimp only at hSw); go_simp; try with_reducible rfl)
        simp only [Act.put, List.setIfInBounds_toArray, List.set_cons_zero, List.set_cons_succ]
        refine wpAnyH_done (by kernel_rfl) ?_ _
        have e0 := HSD.out.cell 0
        go_wp2_with (at_builtin; refine wpList_appS rfl (.tmp 29) (.tmp 32) 24 rfl 32 i0 _ 1 24 Try.underlying24 Hi.out Hz0.out Hz1.out Hz2.out rfl (by decide) (.slice KA ks.length kc) ks.length (ks.map slOf) rfl w _ (by exact (HSD.out.alloc' _).up2) (some ⟨w6.heap.size, 0, none⟩) 1 1 [slOf es[0].key] rfl (lit_rdv _ _ _) rfl (slOf_one [es[0].key]) (by unfold maxLen; omega) (by omega) ?_; intro A7 c7 w7 hs7; have HS7 := Lib.hid hs7; clear hs7)
        go_roundw
        · refine ⟨0 + 1, ks ++ [es[0].key], by omega, by push_cast; rfl, ⟨?_, ?_, by rw [List.length_append, List.length_singleton]; omega, ?_⟩⟩
          · rw [txt_append, HD.out.say, unlike_zero es hlt]
            rfl
          · intro x hx
            rcases List.mem_append.1 hx with hx | hx
            · exact HD.out.mem x hx
            · exact ⟨es[0], List.getElem_mem _, List.mem_singleton.1 hx⟩
          · have h9 := HS7.out.drop2
            rw [List.length_append, List.map_append]
            exact h9
        · simp [intOf]; omega
      · obtain ⟨y0, _, _, _⟩ := hq i (by omega)
        have b0 := HD.out.sat.chg.cell y0 id
        unfold slv' at b0
        have hpr : i < es.length := by omega
        have HEp := Lib.hid (HR.out _ (List.getElem_mem hpr))
        clear z0 z1 z2 z3 hq
        have Y0 := Lib.hid y0
        clear y0
        have hii : ((i + 1 : Nat) : Int) - 1 = (i : Int) := by omega
        have hwi : IntKind.i64.wrap (i : Int) = (i : Int) := by rw [IntKind.wrap_i64]; omega
        have hpi : (i : Int) < es.length := by omega
        have hne0 : ((i : Int) + 1 == 0) = false := by rw [beq_eq_false_iff_ne]; omega
        have hne1 : ¬ (i : Int) + 1 = 0 := by omega
        go_upto_region 5 with fail
        have HSV := HSE
        revert HSV
        generalize World.alloc wr _ = w5
        generalize wr.heap.size = E
        intro HSV
        have HSW : Hid (Sat w (Pt E 34 #[.slice es[i + 1].key.1 es[i + 1].key.2.2.length es[i + 1].key.2.1, .slice es[i + 1].value.1 es[i + 1].value.2.2.length es[i + 1].value.2.1, .int .i64 es[i + 1].seq, .bool es[i + 1].dead] * (Row 32 1 (.slice KA ks.length kc) ks.length (ks.map slOf) * Emp)) w5) := HSV
        clear HSV HSE a0 a1 a2 a3 b0
        by_cases hsame : es[i].key.2.2 = es[i + 1].key.2.2
        · have HDec : Hid (decide (es[i].key.2.2 = es[i + 1].key.2.2) = true) := decide_eq_true hsame
          have HSm := Lib.hid (unlike_same es i hlt hsame)
          clear hsame
          refine wp_region_held_drew (S := fun w' => w'.cell? ⟨lb, lo + i * 4, none⟩ = some (.slice es[i].key.1 es[i].key.2.2.length es[i].key.2.1) ∧ w'.cell? ⟨E, 0, none⟩ = some (.slice es[i + 1].key.1 es[i + 1].key.2.2.length es[i + 1].key.2.1)) (by kernel_rfl) ⟨HSW.out.drew.chg.cell Y0.out id, HSW.out.drew.cell 0⟩ ?_
          intro hS0
          have HSD := Lib.hid HSW.out.drew
          revert HSD hS0
          generalize w5.drew = w6
          intro hS0 HSD
          refine rgn_take (i := 0) (v := ?rv15) rfl (by kernel_rfl) (by kernel_rfl) (by kernel_rfl) (fun _ _ _ h => h) (by rfl) ?rh15 (by assumption) ?rr15
          case rh15 => (intro w hSw; (try dsimp only at hSw); go_simp; try with_reducible rfl)
          simp only [Act.put, List.setIfInBounds_toArray, List.set_cons_zero, List.set_cons_succ]
          refine rgn_take (i := 1) (v := ?rv16) rfl (by kernel_rfl) (by kernel_rfl) (by kernel_rfl) (fun _ _ _ h => h) (by rfl) ?rh16 (by assumption) ?rr16
          case rh16 => (intro w hSw; (try dsimp only at hSw); go_simp; try with_reducible rfl)
          simp only [Act.put, List.setIfInBounds_toArray, List.set_cons_zero, List.set_cons_succ]
          refine rgn_take (i := 2) (v := ?rv17) rfl (by kernel_rfl) (by kernel_rfl) (by kernel_rfl) (fun _ _ _ h => h) (by rfl) ?rh17 (by assumption) ?rr17
          case rh17 => (intro w hSw; (try dsimp only at hSw); go_simp; try with_reducible rfl)
          simp only [Act.put, List.setIfInBounds_toArray, List.set_cons_zero, List.set_cons_succ]
          refine rgn_take (i := 3) (v := ?rv18) rfl (by kernel_rfl) (by kernel_rfl) (by kernel_rfl) (fun _ _ _ h => h) (by rfl) ?rh18 (by assumption) ?rr18
          case rh18 => (intro w hSw; (try dsimp only at hSw); go_simp; try with_reducible rfl)
          simp only [Act.put, List.setIfInBounds_toArray, List.set_cons_zero, List.set_cons_succ]
          refine rgn_take (i := 4) (v := ?rv19) rfl (by kernel_rfl) (by kernel_rfl) (by kernel_rfl) (fun _ _ _ h => h) (by rfl) ?rh19 (by assumption) ?rr19
          case rh19 => (intro w hSw; (try dsimp only at hSw); go_simp; try with_reducible rfl)
          simp only [Act.put, List.setIfInBounds_toArray, List.set_cons_zero, List.set_cons_succ]
          refine rgn_take (i := 5) (v := ?rv20) rfl (by kernel_rfl) (by kernel_rfl) (by kernel_rfl) (fun _ _ _ h => h) (by rfl) ?rh20 (by assumption) ?rr20
          case rh20 => (intro w hSw; (try dsimp only at hSw); go_simp; try with_reducible rfl)
          simp only [Act.put, List.setIfInBounds_toArray, List.set_cons_zero, List.set_cons_succ]
          refine rgn_take (i := 6) (v := ?rv21) rfl (by kernel_rfl) (by kernel_rfl) (by kernel_rfl) (fun _ _ _ h => h) (by rfl) ?rh21 (by assumption) ?rr21
          case rh21 => (intro w hSw; (try dsimp only at hSw); go_simp; try with_reducible rfl)
          simp only [Act.put, List.setIfInBounds_toArray, List.set_cons_zero, List.set_cons_succ]
          refine rgn_take (i := 7) (v := ?rv22) rfl (by kernel_rfl) (by kernel_rfl) (by kernel_rfl) (fun _ _ _ h => h) (by rfl) ?rh22 (by assumption) ?rr22
          case rh22 => (intro w hSw; (try dsimp only at hSw); go_simp; try with_reducible rfl)
          simp only [Act.put, List.setIfInBounds_toArray, List.set_cons_zero, List.set_cons_succ]
          refine rgn_take (i := 8) (v := ?rv23) rfl (by kernel_rfl) (by kernel_rfl) (by kernel_rfl) (fun _ _ _ h => h) (by rfl) ?rh23 (by assumption) ?rr23
          case rh23 => (intro w hSw; (try dsimp only at hSw); go_simp; try with_reducible rfl)
          simp only [Act.put, List.setIfInBounds_toArray, List.set_cons_zero, List.set_cons_succ]
          refine rgn_take (i := 9) (v := ?rv24) rfl (by kernel_rfl) (by kernel_rfl) (by kernel_rfl) (fun _ _ _ h => h) (by rfl) ?rh24 (by assumption) ?rr24
          case rh24 => (intro w hSw; (try dsimp only at hSw); go_simp; try with_reducible rfl)
          simp only [Act.put, List.setIfInBounds_toArray, List.set_cons_zero, List.set_cons_succ]
          refine rgn_take (i := 10) (v := ?rv25) rfl (by kernel_rfl) (by kernel_rfl) (by kernel_rfl) (fun _ _ _ h => h) (by rfl) ?rh25 (by assumption) ?rr25
          case rh25 => (intro w hSw; (try dsimp only at hSw); go_simp; try with_reducible rfl)
          simp only [Act.put, List.setIfInBounds_toArray, List.set_cons_zero, List.set_cons_succ]
          refine rgn_call (i := 11) rfl (by kernel_rfl) (fun K hK => ?_)
          go_simp
          go_at_call 60; refine (beq_any es[i].key es[i + 1].key w6 (HEp.out.1.new HSD.out.chg) (HE.out.1.new HSD.out.chg)).mono ?_; rintro x w' ⟨rfl, hw'⟩; rw [hw', HDec.out]; clear hw' w'
          refine hK.out _ _ ⟨HSD.out.chg.cell Y0.out id, HSD.out.cell 0⟩ (fun hS0 => ?_)
          clear hK K
          refine rgn_take (i := 12) (v := ?rv27) rfl (by kernel_rfl) (by kernel_rfl) (by kernel_rfl) (fun _ _ _ h => h) (by rfl) ?rh27 (by assumption) ?rr27
          case rh27 => (intro w hSw; (try dsimp only at hSw); go_simp; try with_reducible rfl)
          simp only [Act.put, List.setIfInBounds_toArray, List.set_cons_zero, List.set_cons_succ]
          refine rgn_take (i := 13) (v := ?rv28) rfl (by kernel_rfl) (by kernel_rfl) (by kernel_rfl) (fun _ _ _ h => h) (by rfl) ?rh28 (by assumption) ?rr28
          case rh28 => (intro w hSw; (try dsimp only at hSw); go_simp; try with_reducible rfl)
          simp only [Act.put, List.setIfInBounds_toArray, List.set_cons_zero, List.set_cons_succ]
          refine wpAnyH_done (by kernel_rfl) ?_ _
          go_wp2_with fail
          go_roundw
          · exact ⟨i + 2, ks, by omega, by push_cast; rfl, ⟨by rw [HD.out.say, HSm.out], HD.out.mem, by omega, HSD.out.right⟩⟩
          · simp [intOf]; omega
        · have HDec : Hid (decide (es[i].key.2.2 = es[i + 1].key.2.2) = false) := decide_eq_false hsame
          have HSm := Lib.hid (unlike_new es i hlt hsame)
          clear hsame
          refine wp_region_held_drew (S := fun w' => w'.cell? ⟨lb, lo + i * 4, none⟩ = some (.slice es[i].key.1 es[i].key.2.2.length es[i].key.2.1) ∧ w'.cell? ⟨E, 0, none⟩ = some (.slice es[i + 1].key.1 es[i + 1].key.2.2.length es[i + 1].key.2.1)) (by kernel_rfl) ⟨HSW.out.drew.chg.cell Y0.out id, HSW.out.drew.cell 0⟩ ?_
          intro hS0
          have HSD := Lib.hid HSW.out.drew
          revert HSD hS0
          generalize w5.drew = w6
          intro hS0 HSD
          refine rgn_take (i := 0) (v := ?rv29) rfl (by kernel_rfl) (by kernel_rfl) (by kernel_rfl) (fun _ _ _ h => h) (by rfl) ?rh29 (by assumption) ?rr29
          case rh29 => (intro w hSw; (try dsimp only at hSw); go_simp; try with_reducible rfl)
          simp only [Act.put, List.setIfInBounds_toArray, List.set_cons_zero, List.set_cons_succ]
          refine rgn_take (i := 1) (v := ?rv30) rfl (by kernel_rfl) (by kernel_rfl) (by kernel_rfl) (fun _ _ _ h => h) (by rfl) ?rh30 (by assumption) ?rr30
          case rh30 => (intro w hSw; (try dsimp only at hSw); go_simp; try with_reducible rfl)
          simp only [Act.put, List.setIfInBounds_toArray, List.set_cons_zero, List.set_cons_succ]
          refine rgn_take (i := 2) (v := ?rv31) rfl (by kernel_rfl) (by kernel_rfl) (by kernel_rfl) (fun _ _ _ h => h) (by rfl) ?rh31 (by assumption) ?rr31
          case rh31 => (intro w hSw; (try dsimp only at hSw); go_simp; try with_reducible rfl)
          simp only [Act.put, List.setIfInBounds_toArray, List.set_cons_zero, List.set_cons_succ]
          refine rgn_take (i := 3) (v := ?rv32) rfl (by kernel_rfl) (by kernel_rfl) (by kernel_rfl) (fun _ _ _ h => h) (by rfl) ?rh32 (by assumption) ?rr32
          case rh32 => (intro w hSw; (try dsimp only at hSw); go_simp; try with_reducible rfl)
          simp only [Act.put, List.setIfInBounds_toArray, List.set_cons_zero, List.set_cons_succ]
          refine rgn_take (i := 4) (v := ?rv33) rfl (by kernel_rfl) (by kernel_rfl) (by kernel_rfl) (fun _ _ _ h => h) (by rfl) ?rh33 (by assumption) ?rr33
          case rh33 => (intro w hSw; (try dsimp only at hSw); go_simp; try with_reducible rfl)
          simp only [Act.put, List.setIfInBounds_toArray, List.set_cons_zero, List.set_cons_succ]
          refine rgn_take (i := 5) (v := ?rv34) rfl (by kernel_rfl) (by kernel_rfl) (by kernel_rfl) (fun _ _ _ h => h) (by rfl) ?rh34 (by assumption) ?rr34
          case rh34 => (intro w hSw; (try dsimp only at hSw); go_simp; try with_reducible rfl)
          simp only [Act.put, List.setIfInBounds_toArray, List.set_cons_zero, List.set_cons_succ]
          refine rgn_take (i := 6) (v := ?rv35) rfl (by kernel_rfl) (by kernel_rfl) (by kernel_rfl) (fun _ _ _ h => h) (by rfl) ?rh35 (by assumption) ?rr35
          case rh35 => (intro w hSw; (try dsimp only at hSw); go_simp; try with_reducible rfl)
          simp only [Act.put, List.setIfInBounds_toArray, List.set_cons_zero, List.set_cons_succ]
          refine rgn_take (i := 7) (v := ?rv36) rfl (by kernel_rfl) (by kernel_rfl) (by kernel_rfl) (fun _ _ _ h => h) (by rfl) ?rh36 (by assumption) ?rr36
          case rh36 => (intro w hSw; (try dsimp only at hSw); go_simp; try with_reducible rfl)
          simp only [Act.put, List.setIfInBounds_toArray, List.set_cons_zero, List.set_cons_succ]
          refine rgn_take (i := 8) (v := ?rv37) rfl (by kernel_rfl) (by kernel_rfl) (by kernel_rfl) (fun _ _ _ h => h) (by rfl) ?rh37 (by assumption) ?rr37
          case rh37 => (intro w hSw; (try dsimp only at hSw); go_simp; try with_reducible rfl)
          simp only [Act.put, List.setIfInBounds_toArray, List.set_cons_zero, List.set_cons_succ]
          refine rgn_take (i := 9) (v := ?rv38) rfl (by kernel_rfl) (by kernel_rfl) (by kernel_rfl) (fun _ _ _ h => h) (by rfl) ?rh38 (by assumption) ?rr38
          case rh38 => (intro w hSw; (try dsimp only at hSw); go_simp; try with_reducible rfl)
          simp only [Act.put, List.setIfInBounds_toArray, List.set_cons_zero, List.set_cons_succ]
          refine rgn_take (i := 10) (v := ?rv39) rfl (by kernel_rfl) (by kernel_rfl) (by kernel_rfl) (fun _ _ _ h => h) (by rfl) ?rh39 (by assumption) ?rr39
          case rh39 => (intro w hSw; (try dsimp only at hSw); go_simp; try with_reducible rfl)
          simp only [Act.put, List.setIfInBounds_toArray, List.set_cons_zero, List.set_cons_succ]
          refine rgn_call (i := 11) rfl (by kernel_rfl) (fun K hK => ?_)
          go_simp
          go_at_call 60; refine (beq_any es[i].key es[i + 1].key w6 (HEp.out.1.new HSD.out.chg) (HE.out.1.new HSD.out.chg)).mono ?_; rintro x w' ⟨rfl, hw'⟩; rw [hw', HDec.out]; clear hw' w'
          refine hK.out _ _ ⟨HSD.out.chg.cell Y0.out id, HSD.out.cell 0⟩ (fun hS0 => ?_)
          clear hK K
          refine rgn_take (i := 12) (v := ?rv41) rfl (by kernel_rfl) (by kernel_rfl) (by kernel_rfl) (fun _ _ _ h => h) (by rfl) ?rh41 (by assumption) ?rr41
          case rh41 => (intro w hSw; (try dsimp only at hSw); go_simp; try with_reducible rfl)
          simp only [Act.put, List.setIfInBounds_toArray, List.set_cons_zero, List.set_cons_succ]
          refine rgn_take (i := 13) (v := ?rv42) rfl (by kernel_rfl) (by kernel_rfl) (by kernel_rfl) (fun _ _ _ h => h) (by rfl) ?rh42 (by assumption) ?rr42
          case rh42 => (intro w hSw; (try dsimp only at hSw); go_simp; try with_reducible rfl)
          simp only [Act.put, List.setIfInBounds_toArray, List.set_cons_zero, List.set_cons_succ]
          refine wpAnyH_done (by kernel_rfl) ?_ _
          have e0 := HSD.out.cell 0
          go_wp2_with (at_builtin; refine wpList_appS rfl (.tmp 29) (.tmp 32) 24 rfl 32 i0 _ 1 24 Try.underlying24 Hi.out Hz0.out Hz1.out Hz2.out rfl (by decide) (.slice KA ks.length kc) ks.length (ks.map slOf) rfl w _ (by exact (HSD.out.alloc' _).up2) (some ⟨w6.heap.size, 0, none⟩) 1 1 [slOf es[i + 1].key] rfl (lit_rdv _ _ _) rfl (slOf_one [es[i + 1].key]) (by unfold maxLen; omega) (by omega) ?_; intro A7 c7 w7 hs7; have HS7 := Lib.hid hs7; clear hs7)
          go_roundw
          · refine ⟨i + 2, ks ++ [es[i + 1].key], by omega, by push_cast; rfl, ⟨?_, ?_, by rw [List.length_append, List.length_singleton]; omega, ?_⟩⟩
            · rw [txt_append, HD.out.say, HSm.out]
              rfl
            · intro x hx
              rcases List.mem_append.1 hx with hx | hx
              · exact HD.out.mem x hx
              · exact ⟨es[i + 1], List.getElem_mem _, List.mem_singleton.1 hx⟩
            · have h9 := HS7.out.drop2
              rw [List.length_append, List.map_append]
              exact h9
          · simp [intOf]; omega
    · have hie : i = es.length := by omega
      subst hie
      have hsay := HD.out.say
      have hul := unlike_len (es.map En.ent) es.length
      have hN : nbytes (ks.length : Int) 10 = nbytes (unlike (es.map En.ent) (es.map En.ent).length).length 10 := by
        rw [List.length_map, ← hsay]
        unfold txt
        rw [List.length_map]
      have HN := Lib.hid hN
      have HB := nbytes_le (ks.length : Int) 10 ⟨by omega, by omega, by omega, by omega⟩
      have HBs := Lib.hid HB.2
      have HKs : Hid (RdL wr KA ks) := by
        obtain ⟨A', c', e, h1, _⟩ := HD.out.sat.row_rd
        injection e with e
        subst e
        exact ⟨h1, fun x hx => by obtain ⟨e, he, rfl⟩ := HD.out.mem x hx; exact (HR.out e he).1.new HD.out.sat.chg⟩
      have HKl : Hid (∀ x ∈ ks, x.2.2.length ≤ 140737488355328) := fun x hx => by obtain ⟨e, he, rfl⟩ := HD.out.mem x hx; exact HSh.out e he
      clear hsay hul hN HB
      go_wp2_with (go_at_call 92; refine (new_yes (ks.length : Int) 10 wr ⟨by omega, by omega, by omega, by omega⟩).mono ?_; rintro x w8 ⟨g, h, rfl, hF, hg, hh, k8⟩; have HF := Lib.hid hF; have HG := Lib.hid hg; have HH := Lib.hid hh; have HK8 := Lib.hid k8; clear hF hg hh k8)
      have hst := stay_rdl HKs.out HK8.out HH.out
      have hkk : ks.length ≤ 140737488355328 := by omega
      refine (add_any g h (nbytes (ks.length : Int) 10) (nbytes (ks.length : Int) 10) kc (List.replicate (nbytes (ks.length : Int) 10) 0) KA ks w8 HF.out HBs.out hst HKl.out hkk).mono ?_
      rintro x w9 ⟨rfl, hF9, k9⟩
      have HF9 := Lib.hid hF9
      have HK9 := Lib.hid k9
      clear hF9 k9
      go_wp2_with fail
      go_ret
      have hs := HD.out.sat.chg
      have hsz := hs.size
      refine ⟨g, h, nbytes (ks.length : Int) 10, rfl, ?_, by have := HG.out; omega, by have := HH.out; omega, (hs.tr HK8.out).own HK9.out (fun q hq => by have e : q = h := hq; have := HH.out; omega), HBs.out⟩
      have h9 := HF9.out
      rw [HD.out.say] at h9
      unfold bitsB
      rw [← HN.out, List.length_map]
      exact h9
end Go.Proofs.Ytaoenbjfkahdjaa
namespace Go.Proofs.Ytaoenbjfkahdjaa
open Go.RowKit
set_option linter.unusedVariables false
set_option maxRecDepth 100000

theorem notmay_any (e : En) (w : World) (hk : e.key.2.2.length ≤ 140737488355328) (hv : e.value.2.2.length ≤ 140737488355328) :
    Calls Try.prog 51 #[.agg #[.slice e.key.1 e.key.2.2.length e.key.2.1, .slice e.value.1 e.value.2.2.length e.value.2.1, .int .i64 e.seq, .bool e.dead]] w fun x w' => x = .returned (.bool (!mayE e.ent)) ∧ Chg No w w' := by
  have hs := (Sat.start w).allocPt 34 #[.slice e.key.1 e.key.2.2.length e.key.2.1, .slice e.value.1 e.value.2.2.length e.value.2.1, .int .i64 e.seq, .bool e.dead]
  have c0 := hs.cell 0; have c1 := hs.cell 1; have c2 := hs.cell 2; have c3 := hs.cell 3
  have HS := Lib.hid hs
  clear hs
  go_enter Try.func51, Try.ntmps51
  go_wp2_with (go_at_call 52; refine (lmay_any e _ hk hv).mono ?_; rintro x w1 ⟨rfl, k1⟩; have HK := Lib.hid (HS.out.chg.tr k1); clear k1)
  go_ret
  exact ⟨rfl, HK.out⟩
theorem tindex_any (A : Option Addr) (c : Nat) (es : List En) (w : World) (h : RdV w A (es.flatMap enV)) (hc : es.length ≤ c) (hm : c ≤ maxLen) (hsh : ∀ e ∈ es, e.key.2.2.length ≤ 140737488355328 ∧ e.value.2.2.length ≤ 140737488355328) :
    Calls Try.prog 90 #[.slice A es.length c, .func (.func 51) #[] #[]] w fun x w' => (∃ r : Int, x = .returned (.int .i64 r) ∧ decide (0 ≤ r) = (es.map En.ent).any (fun e => !mayE e)) ∧ Chg No w w' := by
  have HL := Lib.hid h
  have HSh := Lib.hid hsh
  unfold maxLen at hm
  clear h hsh
  go_enter Try.func90, Try.ntmps90
  go_wp2_with fail
  go_loopw [8] (fun iv wr => ∃ i : Nat, i ≤ es.length ∧ iv = .int .i64 i ∧ Hid ((∀ j (h : j < es.length), j < i → mayE es[j].ent = true) ∧ Chg No w wr)) (fun iv _ => es.length - (intOf iv).toNat)
  case atStart => exact ⟨0, by omega, rfl, fun j _ h => by omega, Chg.refl _ _⟩
  case round =>
    obtain ⟨i, hi, rfl, HD⟩ := hrel
    by_cases hlt : i < es.length
    · obtain ⟨lb, lo, rfl, hq⟩ := ents_at HL.out (by omega)
      obtain ⟨z0, z1, z2, z3⟩ := hq i hlt
      have a0 := HD.out.2.cell z0 id; have a1 := HD.out.2.cell z1 id; have a2 := HD.out.2.cell z2 id; have a3 := HD.out.2.cell z3 id
      unfold slv' at a0 a1
      have hs := HSh.out _ (List.getElem_mem hlt)
      clear z0 z1 z2 z3 hq
      obtain ⟨B, hB⟩ : ∃ B, mayE es[i].ent = B := ⟨_, rfl⟩
      have HB := Lib.hid hB
      clear hB
      cases B
      · go_wp2_with (go_at_call 51; refine (notmay_any es[i] _ hs.1 hs.2).mono ?_; rintro x w1 ⟨rfl, k1⟩; rw [HB.out]; have HK := Lib.hid (HD.out.2.tr k1); clear k1)
        go_ret
        refine ⟨⟨i, rfl, ?_⟩, HK.out⟩
        rw [decide_eq_true (by omega)]
        exact (List.any_eq_true.2 ⟨es[i].ent, List.mem_map.2 ⟨es[i], List.getElem_mem _, rfl⟩, by rw [HB.out]; rfl⟩).symm
      · go_wp2_with (go_at_call 51; refine (notmay_any es[i] _ hs.1 hs.2).mono ?_; rintro x w1 ⟨rfl, k1⟩; rw [HB.out]; have HK := Lib.hid (HD.out.2.tr k1); clear k1)
        go_roundw
        · refine ⟨i + 1, by omega, by push_cast; rfl, fun j h hj => ?_, HK.out⟩
          by_cases e : j = i
          · subst e; exact HB.out
          · exact HD.out.1 j h (by omega)
        · simp [intOf]; omega
    · go_wp2_with fail
      go_ret
      refine ⟨⟨-1, rfl, ?_⟩, HD.out.2⟩
      rw [decide_eq_false (by omega)]
      symm
      rw [List.any_eq_false]
      intro x hx
      obtain ⟨e, he, rfl⟩ := List.mem_map.1 hx
      obtain ⟨j, hj, rfl⟩ := List.getElem_of_mem he
      rw [HD.out.1 j hj (by omega)]
      simp
theorem tcontains_any (A : Option Addr) (c : Nat) (es : List En) (w : World) (h : RdV w A (es.flatMap enV)) (hc : es.length ≤ c) (hm : c ≤ maxLen) (hsh : ∀ e ∈ es, e.key.2.2.length ≤ 140737488355328 ∧ e.value.2.2.length ≤ 140737488355328) :
    Calls Try.prog 50 #[.slice A es.length c, .func (.func 51) #[] #[]] w fun x w' => x = .returned (.bool ((es.map En.ent).any (fun e => !mayE e))) ∧ Chg No w w' := by
  have HL := Lib.hid h
  have HM := Lib.hid hm
  have HSh := Lib.hid hsh
  clear h hsh hm
  go_enter Try.func50, Try.ntmps50
  go_wp2_with (go_at_call 90; refine (tindex_any A c es _ HL.out hc HM.out HSh.out).mono ?_; rintro x w1 ⟨⟨r, rfl, hr⟩, k1⟩; have HR := Lib.hid hr; have HK := Lib.hid k1; clear hr k1)
  go_ret
  refine ⟨?_, HK.out⟩
  rw [← HR.out]
  rfl
end Go.Proofs.Ytaoenbjfkahdjaa
