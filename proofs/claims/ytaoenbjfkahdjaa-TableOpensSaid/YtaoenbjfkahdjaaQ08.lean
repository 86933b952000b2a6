/- Joined, as they were built one by one: Tab1 Reg Book Book2 Book3. -/
import Derived.Deep.CutBlock
import Derived.Test.YtaoenbjfkahdjaaQ07
namespace Go.Proofs.Ytaoenbjfkahdjaa
open Go.RowKit
set_option linter.unusedVariables false
set_option maxRecDepth 100000

theorem four_any (n : Nat) (hn : n < 9223372036854775808) (w0 w : World) (F : SP) (h : Sat w0 F w) : Calls Try.prog 54 #[.int .i64 (n : Int)] w (NewB w0 F (putB n 4)) := by
  have H := Lib.hid h
  clear h
  have hw : IntKind.u64.wrap (n : Int) = n := by rw [IntKind.wrap_u64]; omega
  go_enter Try.func54, Try.ntmps54
  go_wp2_with (go_at_call 58; refine (oput_any n 4 (by omega) (by omega) (by omega) w0 _ F H.out).mono ?_; rintro x w1 ⟨A, c, rfl, h1, h2, hs⟩; have H1 := Lib.hid h1; have H2 := Lib.hid h2; have HS := Lib.hid hs; clear h1 h2 hs)
  go_ret
  exact ⟨A, c, rfl, H1.out, H2.out, HS.out⟩
theorem rnum_any (n : Nat) (k : Nat) (hn : n < 9223372036854775808) (h0 : 1 ≤ k) (h8 : k ≤ 8) (w0 w : World) (F : SP) (h : Sat w0 F w) : Calls Try.prog 74 #[.int .i64 (n : Int), .int .i64 (k : Int)] w (NewB w0 F (putB n k)) := by
  have H := Lib.hid h
  clear h
  have hw : IntKind.u64.wrap (n : Int) = n := by rw [IntKind.wrap_u64]; omega
  go_enter Try.func74, Try.ntmps74
  go_wp2_with (go_at_call 99; refine (rput1_any n k (by omega) h0 h8 w0 _ F H.out).mono ?_; rintro x w1 ⟨A, c, rfl, h1, h2, hs⟩; have H1 := Lib.hid h1; have H2 := Lib.hid h2; have HS := Lib.hid hs; clear h1 h2 hs)
  go_ret
  exact ⟨A, c, rfl, H1.out, H2.out, HS.out⟩
theorem common_any (a b : Slc) (w : World) (ha : Rd w a.1 a.2.2) (hb : Rd w b.1 b.2.2) (hl : a.2.2.length ≤ 1000000) :
    Calls Try.prog 91 #[.slice a.1 a.2.2.length a.2.1, .slice b.1 b.2.2.length b.2.1] w fun x w' => x = .returned (.int .i64 (commonN a.2.2 b.2.2 : Nat)) ∧ Chg No w w' := by
  obtain ⟨A, c, l⟩ := a
  obtain ⟨B, d, m⟩ := b
  have HA : Hid (Rd w A l) := ha
  have HB : Hid (Rd w B m) := hb
  have hl : l.length ≤ 1000000 := hl
  clear ha hb
  show Calls Try.prog 91 #[.slice A l.length c, .slice B m.length d] w fun x w' => x = .returned (.int .i64 (commonN l m : Nat)) ∧ Chg No w w'
  go_enter Try.func91, Try.ntmps91
  go_wp2_with fail
  go_loopw [5] (fun iv wr => ∃ n : Nat, n ≤ l.length ∧ n ≤ m.length ∧ iv = .int .i64 n ∧ Hid ((∀ j (h : j < l.length) (h' : j < m.length), j < n → l[j] = m[j]) ∧ Chg No w wr)) (fun iv _ => l.length - (intOf iv).toNat)
  case atStart => exact ⟨0, by omega, by omega, rfl, fun j _ _ h => by omega, Chg.refl _ _⟩
  case round =>
    obtain ⟨n, hn1, hn2, rfl, HD⟩ := hrel
    by_cases h1 : n < l.length
    · by_cases h2 : n < m.length
      · obtain ⟨b1, o1, rfl, c1⟩ := (HA.out.new HD.out.2).get h1
        obtain ⟨b2, o2, rfl, c2⟩ := (HB.out.new HD.out.2).get h2
        by_cases h3 : l[n] = m[n]
        · have HN : Hid (∀ j (h : j < l.length) (h' : j < m.length), j < n + 1 → l[j] = m[j]) := fun j h h' hj => by
            by_cases e : j = n
            · subst e; exact h3
            · exact HD.out.1 j h h' (by omega)
          rw [h3] at c1
          clear h3
          go_wp2_with fail
          go_quiet (fail)
          go_wp2_with fail
          go_roundw
          · exact ⟨n + 1, by omega, by omega, by push_cast; rfl, HN.out, HD.out.2.drewN _⟩
          · simp [intOf]; omega
        · have h4 : ((l[n].toNat : Int) == (m[n].toNat : Int)) = false := by
            rw [beq_eq_false_iff_ne]
            intro e
            exact h3 (UInt8.toNat.inj (by omega))
          have HE : Hid (commonN l m = n) := commonN_eq hn1 hn2 HD.out.1 (fun _ _ => h3)
          clear h3
          go_wp2_with fail
          go_quiet (fail)
          go_wp2_with fail
          go_ret
          exact ⟨by rw [HE.out]; rfl, HD.out.2.drewN _⟩
      · have HE : Hid (commonN l m = n) := commonN_eq hn1 hn2 HD.out.1 (fun _ h => absurd h h2)
        go_wp2_with fail
        go_quiet (fail)
        go_wp2_with fail
        go_ret
        exact ⟨by rw [HE.out]; rfl, HD.out.2.drewN _⟩
    · have HE : Hid (commonN l m = n) := commonN_eq hn1 hn2 HD.out.1 (fun h => absurd h h1)
      go_wp2_with fail
      go_quiet (fail)
      go_wp2_with fail
      go_ret
      exact ⟨by rw [HE.out]; rfl, HD.out.2.drewN _⟩
theorem may_any (e : En) (w : World) (hk : e.key.2.2.length ≤ 140737488355328) (hv : e.value.2.2.length ≤ 140737488355328) :
    Calls Try.prog 52 #[enA e] w fun x w' => x = .returned (.bool (mayE e.ent)) ∧ Chg No w w' := by
  obtain ⟨⟨kA, kc, k⟩, ⟨vA, vc, v⟩, seq, dead⟩ := e
  have hk : k.length ≤ 140737488355328 := hk
  have hv : v.length ≤ 140737488355328 := hv
  have hs := (Sat.start w).allocPt 34 #[.slice kA k.length kc, .slice vA v.length vc, .int .i64 seq, .bool dead]
  have c0 := hs.cell 0; have c1 := hs.cell 1; have c2 := hs.cell 2; have c3 := hs.cell 3
  have HS := Lib.hid hs
  have HM : Hid (mayE ⟨k, v, seq, dead⟩ = (decide (k.length ≤ 128) && (decide (v.length ≤ 16384) && ((!dead || decide (v.length = 0)) && decide (0 ≤ seq))))) := rfl
  unfold enA
  show Calls Try.prog _ _ w fun x w' => x = .returned (.bool (mayE ⟨k, v, seq, dead⟩)) ∧ Chg No w w'
  clear hs
  by_cases h1 : k.length ≤ 128
  · have q1 := decide_eq_true h1
    have i1 : (k.length : Int) ≤ 128 := by omega
    by_cases h2 : v.length ≤ 16384
    · have q2 := decide_eq_true h2
      have i2 : (v.length : Int) ≤ 16384 := by omega
      by_cases h3 : 0 ≤ seq
      · have q3 := decide_eq_true h3
        by_cases h4 : v.length = 0
        · have q4 := decide_eq_true h4
          have HE : Hid (mayE ⟨k, v, seq, dead⟩ = true) := by unfold Hid; rw [HM.out, q1, q2, q3, q4]; cases dead <;> rfl
          have i4 : ((v.length : Int) == 0) = true := by rw [h4]; rfl
          clear q1 q2 q3 q4 h4
          cases dead <;>
          · go_enter Try.func52, Try.ntmps52
            go_wp2_with fail
            go_ret
            exact ⟨by rw [HE.out]; rfl, HS.out.chg⟩
        · have q4 := decide_eq_false h4
          have i4 : ((v.length : Int) == 0) = false := by rw [beq_eq_false_iff_ne]; omega
          cases dead
          · have HE : Hid (mayE ⟨k, v, seq, false⟩ = true) := by unfold Hid; rw [HM.out, q1, q2, q3, q4]; rfl
            clear q1 q2 q3 q4 h4
            go_enter Try.func52, Try.ntmps52
            go_wp2_with fail
            go_ret
            exact ⟨by rw [HE.out]; rfl, HS.out.chg⟩
          · have HE : Hid (mayE ⟨k, v, seq, true⟩ = false) := by unfold Hid; rw [HM.out, q1, q2, q3, q4]; rfl
            clear q1 q2 q3 q4 h4
            go_enter Try.func52, Try.ntmps52
            go_wp2_with fail
            go_ret
            exact ⟨by rw [HE.out]; rfl, HS.out.chg⟩
      · have q3 := decide_eq_false h3
        have HE : Hid (mayE ⟨k, v, seq, dead⟩ = false) := by unfold Hid; rw [HM.out, q1, q2, q3]; simp
        by_cases h4 : v.length = 0
        · have i4 : ((v.length : Int) == 0) = true := by rw [h4]; rfl
          clear q1 q2 q3 h4
          cases dead <;>
          · go_enter Try.func52, Try.ntmps52
            go_wp2_with fail
            go_ret
            exact ⟨by rw [HE.out]; rfl, HS.out.chg⟩
        · have i4 : ((v.length : Int) == 0) = false := by rw [beq_eq_false_iff_ne]; omega
          clear q1 q2 q3 h4
          cases dead <;>
          · go_enter Try.func52, Try.ntmps52
            go_wp2_with fail
            go_ret
            exact ⟨by rw [HE.out]; rfl, HS.out.chg⟩
    · have q2 := decide_eq_false h2
      have i2 : ¬ (v.length : Int) ≤ 16384 := by omega
      have HE : Hid (mayE ⟨k, v, seq, dead⟩ = false) := by unfold Hid; rw [HM.out, q1, q2]; rfl
      clear q1 q2
      go_enter Try.func52, Try.ntmps52
      go_wp2_with fail
      go_ret
      exact ⟨by rw [HE.out]; rfl, HS.out.chg⟩
  · have q1 := decide_eq_false h1
    have i1 : ¬ (k.length : Int) ≤ 128 := by omega
    have HE : Hid (mayE ⟨k, v, seq, dead⟩ = false) := by unfold Hid; rw [HM.out, q1]; rfl
    clear q1
    go_enter Try.func52, Try.ntmps52
    go_wp2_with fail
    go_ret
    exact ⟨by rw [HE.out]; rfl, HS.out.chg⟩
end Go.Proofs.Ytaoenbjfkahdjaa
namespace Go.Proofs.Ytaoenbjfkahdjaa
open Go.RowKit
set_option linter.unusedVariables false
set_option maxRecDepth 100000

theorem step_app {P : Program} {ops : Array Oper} {o : Oper} {a : Act} {w : World} {K : Act → World → Prop} {Q : Exit → Act → World → Prop} {E : Prop} (hgd : o.guard = none) (s x : Operand) (t : TypeId)
    (ho : o.op = .call { callee := .builtin .append, args := #[s, x], argTypes := #[t, t] })
    (base : Nat) (e : TypeId) (i : TypeInfo) (z : Value) (size bytes : Nat) (ht : P.underlying t = some (.slice e)) (hi : P.info? e = some i) (hz : i.zero = some z)
    (hsize : i.size = size) (hby : i.bytes = bytes) (hzs : z.cells.size = size) (hsz : 0 < size)
    (v : Value) (n : Nat) (xs : List Value) (hs : a.eval s = v) (hown : w.ownsRow base e size v n xs)
    (A : Option Addr) (m c : Nat) (news : List Value) (hx : a.eval x = .slice A m c) (hr : RdV w A news) (hm : news.length = m * size) (h1 : ∀ u ∈ news, u.oneCell' = true)
    (h63 : n + m ≤ maxLen) (hbytes : (n + m) * bytes ≤ 140737488355328) (hbase : base ≤ w.heap.size)
    (h : ∀ v' w', Appd base e size w v n m (xs ++ news) v' w' → K (a.put o.dst v') w') :
    if Region.wanted o (yielded ops a.tmps) = true then Oper.wp P o a w K Q else E := by
  have hw : Region.wanted o (yielded ops a.tmps) = true := by simp [Region.wanted, hgd]
  rw [if_pos hw]
  obtain ⟨v', w', hrun, h2⟩ := run_app (P := P) base t o.type e i z size bytes ht hi hz hsize hby hzs hsz v n xs hown A m c news hr hm h1 h63 hbytes hbase
  unfold Oper.wp execOp
  simp only [ho, resolve, invoke, builtin, Sem.run_bind, Sem.run_pure, Result.andThen_ok, List.map_toArray, List.map_cons, List.map_nil, hs, hx, hrun]
  exact h _ _ h2

theorem own_step {S : Nat → Prop} {w w' : World} {base e n : Nat} {v : Value} {xs : List Value} (h : w.ownsRow base e 1 v n xs) (k : Chg S w w') (hS : ∀ g, S g → ∃ t cs, At w g t cs ∧ t ≠ e) : w'.ownsRow base e 1 v n xs :=
  own_chg h k fun b hb hs => by
    obtain ⟨t, cs, ha, hne⟩ := hS b hs
    obtain ⟨cur, hc⟩ := own_type h hb
    exact ha.ne hc hne rfl
theorem OwnL.step {S : Nat → Prop} {w w' : World} {base : Nat} {ks : Rows_} (h : OwnL base w ks) (k : Chg S w w') (hS : ∀ g, S g → ∃ t cs, At w g t cs ∧ t ≠ 5) : OwnL base w' ks :=
  ⟨fun x hx => own_step (h.own x hx) k hS, h.apart⟩
theorem own_at {w : World} {base e n : Nat} {v : Value} {xs : List Value} (h : w.ownsRow base e 1 v n xs) {t' : TypeId} (hne : e ≠ t') : ∀ g, some g = v.ownBlock → ∃ t cs, At w g t cs ∧ t ≠ t' := fun g hg => by
  obtain ⟨cur, hc⟩ := own_type h hg.symm
  exact ⟨e, cur, hc, hne⟩
theorem at_one {w : World} {k t : Nat} {cs : Array Value} (h : At w k t cs) {t' : TypeId} (hne : t ≠ t') : ∀ g, One k g → ∃ t cs, At w g t cs ∧ t ≠ t' := fun g hg => by
  cases hg
  exact ⟨t, cs, h, hne⟩
theorem chg_set (w : World) (k i : Nat) (u : Value) : Chg (One k) w (w.setCell ⟨k, i, none⟩ u) := (Chg.refl (One k) w).setCell (p := ⟨k, i, none⟩) (fun _ => rfl) u
end Go.Proofs.Ytaoenbjfkahdjaa
namespace Go.Proofs.Ytaoenbjfkahdjaa
open Go.RowKit
set_option linter.unusedVariables false
set_option maxRecDepth 100000

def nilS : Value := .slice none 0 0
/-- The book's cells: the answers' list and their twins' list; nothing of the other kinds. -/
structure BookHead (w : World) (k : Nat) (vb vs : Value) : Prop where
  at_ : At w k 57 #[vb, vs, .slice none 0 0, .slice none 0 0, .slice none 0 0, .slice none 0 0]
/-- The book k keeps the answers es (their rows from b1 on); all that is the book's own lies from b2 on. -/
structure Bk (b1 b2 : Nat) (w : World) (k : Nat) (es : Rows_) : Prop where
  le : b1 ≤ b2 ∧ b2 ≤ k
  ex : ∃ vb vs ss, BookHead w k vb vs ∧ w.ownsRow b2 32 1 vb es.length (es.map slOf) ∧ OwnLL b2 w vs ss ∧ txt ss = txt es ∧ (∀ g, vb.ownBlock = some g → vs.ownBlock ≠ some g)
  own : OwnL b1 w es

section
variable {b1 b2 : Nat} {w w' : World} {k : Nat} {es : Rows_}
theorem Bk.new (h : Bk b1 b2 w k es) (c : Chg No w w') : Bk b1 b2 w' k es := by
  obtain ⟨vb, vs, ss, h1, h2, h3, h4, h5⟩ := h.ex
  exact ⟨h.le, ⟨vb, vs, ss, ⟨h1.at_.chg c id⟩, own_chg h2 c (fun _ _ => id), h3.new c, h4, h5⟩, h.own.new c⟩
theorem Bk.fresh (hb : b1 ≤ w.heap.size) : Bk b1 w.heap.size (w.alloc (.cells #[.slice none 0 0, .slice none 0 0, .slice none 0 0, .slice none 0 0, .slice none 0 0, .slice none 0 0] 57)) w.heap.size [] :=
  ⟨⟨hb, Nat.le_refl _⟩, ⟨_, _, [], ⟨At.new _ _ _⟩, World.ownsRow_nil _ _ _ _, OwnLL.nil _ _, rfl, by simp [Value.ownBlock]⟩, OwnL.nil _ _⟩
end

/-- Bytes: one answer more. -/
def Booked (b1 b2 k : Nat) (es : Rows_) (w : World) (e : Ending) (w' : World) : Prop := e = .returned (.tuple #[]) ∧ Bk b1 b2 w' k es ∧ Chg (From b2) w w'
set_option maxHeartbeats 2000000 in
theorem book_bytes (b1 b2 k : Nat) (es : Rows_) (x : Option Addr × Nat × List UInt8) (w : World) (h : Bk b1 b2 w k es) (hx : w.ownsRow b1 5 1 (slOf x) x.2.2.length (x.2.2.map bv))
    (hd : ∀ y ∈ es, ∀ g, (slOf y).ownBlock = some g → (slOf x).ownBlock ≠ some g) (hl : x.2.2.length ≤ 140737488355328) (hn : es.length < 400) :
    Calls Try.prog 26 #[.pointer (some ⟨k, 0, none⟩), .slice x.1 x.2.2.length x.2.1] w (Booked b1 b2 k (es ++ [x]) w) := by
  obtain ⟨i0, hi, hz0, hz1, hz2⟩ := info_parts info_sl
  obtain ⟨vb, vs, ss, hh, hrow, hss, htx, hne⟩ := h.ex
  obtain ⟨Ab, cb, rfl, _, _, _, _⟩ := own_rd hrow
  obtain ⟨As, cs, rfl, _, _, _, _⟩ := own_rd hss.row
  have hlen : ss.length = es.length := by have := congrArg List.length htx; simpa [txt] using this
  have hk0 : w.cell? ⟨k, 0, none⟩ = some (.slice Ab es.length cb) := by rw [hh.at_.cell]; rfl
  have hk1 : w.cell? ⟨k, 1, none⟩ = some (.slice As ss.length cs) := by rw [hh.at_.cell]; rfl
  have hfz := hh.at_.frozen 0
  have hfz1 := hh.at_.frozen 1
  have hn' : (es.length : Int) < 400 := by omega
  have HB := Lib.hid h
  have HX := Lib.hid hx
  have HD := Lib.hid hd
  have HH := Lib.hid hh
  have HRow := Lib.hid hrow
  have HSs := Lib.hid hss
  have HTx := Lib.hid htx
  have HNe := Lib.hid hne
  have HLen := Lib.hid hlen
  have L0 : Hid (b2 ≤ w.heap.size ∧ es.length + 1 ≤ 1000000) := ⟨by have := HB.out.le.2; have := HH.out.at_.lt; omega, by omega⟩
  clear h hx hd hh hrow hss htx hne hlen
  have K0 := Lib.hid ((Chg.refl No w).alloc (.cells #[.slice x.1 x.2.2.length x.2.1] 32))
  have ORow := Lib.hid (own_chg HRow.out K0.out (fun _ _ => id))
  go_enter Try.func26, Try.ntmps26
  go_wp2_with (at_builtin; refine wpList_app rfl (.tmp 14) (.tmp 16) 24 rfl b2 32 i0 _ 1 24 Try.underlying24 hi hz0 hz1 hz2 rfl (by decide) (.slice Ab es.length cb) es.length (es.map slOf) rfl ORow.out (some ⟨w.heap.size, 0, none⟩) 1 1 [slOf x] rfl (RdV.lit w #[.slice x.1 x.2.2.length x.2.1] 32 (0, 0)) rfl (slOf_one [x]) (by have := L0.out.2; unfold maxLen; omega) (by have := L0.out.2; omega) (by have := L0.out.1; simp; omega) ?_; intro v3 w3 hap; have HA := Lib.hid hap; clear hap; obtain ⟨A3, c3, hv3, _⟩ := own_rd HA.out.own; subst hv3;
                    have a3 := (HH.out.at_.alloc (.cells #[.slice x.1 x.2.2.length x.2.1] 32)).chg HA.out.chg (fun e => own_ne_at ORow.out (HH.out.at_.alloc _) (by decide) e); have A3k := Lib.hid a3; have hq0 := a3.cell 0; have hf0 := a3.frozen 0; clear a3)
  have k1 := chg_set w3 k 0 (.slice A3 (es.length + 1) c3)
  have ha1 := A3k.out.set 0 (.slice A3 (es.length + 1) c3)
  obtain ⟨wb, hwb⟩ : ∃ wb : World, wb = w3.setCell ⟨k, 0, none⟩ (.slice A3 (es.length + 1) c3) := ⟨_, rfl⟩
  rw [← hwb] at k1 ha1 ⊢
  clear hwb
  have hA1 : At wb k 57 #[.slice A3 (es.length + 1) c3, .slice As ss.length cs, .slice none 0 0, .slice none 0 0, .slice none 0 0, .slice none 0 0] := ha1
  clear ha1
  have O1 := Lib.hid (own_step HA.out.own k1 (at_one A3k.out (by decide)))
  have X1 := Lib.hid (own_step (own_step (own_chg HX.out K0.out (fun _ _ => id)) HA.out.chg (own_at ORow.out (by decide))) k1 (at_one A3k.out (by decide)))
  have E1 := Lib.hid (((HB.out.own.new K0.out).step HA.out.chg (own_at ORow.out (by decide))).step k1 (at_one A3k.out (by decide)))
  have S1 := Lib.hid (((HSs.out.each.new K0.out).step HA.out.chg (own_at ORow.out (by decide))).step k1 (at_one A3k.out (by decide)))
  have R1 := Lib.hid (own_step (own_chg (own_chg HSs.out.row K0.out (fun _ _ => id)) HA.out.chg (fun b hb e => HNe.out b e.symm hb)) k1 (at_one A3k.out (by decide)))
  have C1 : Hid (Chg (From b2) w wb) := Lib.hid (((K0.out.no).trans HA.out.chg (fun i _ hi => (ORow.out.lt i hi.symm).1)).trans k1 (fun i _ hi => by have := HB.out.le.2; cases hi; exact this))
  have hc1 : wb.cell? ⟨k, 1, none⟩ = some (.slice As ss.length cs) := by rw [hA1.cell]; rfl
  have hg1 := hA1.frozen 1
  have A1 := Lib.hid hA1
  clear k1 hA1 hk0 hk1 hfz hfz1 hq0 hf0
  go_region_law (first
      | (go_simp; go_at_call 78; refine (twin_any _ _ x.2.2 wb.drew (RdV.of_own X1.out) hl).mono ?_; rintro e w4 ⟨v2, rfl, h2, k2⟩; obtain ⟨A2, c2, hv2, _⟩ := own_sl h2; subst hv2; have a4 := At.chg (w := wb.drew) A1.out k2 id; have q8 : w4.cell? ⟨k, 1, none⟩ = some (.slice As ss.length cs) := (by rw [a4.cell]; rfl); have A5 := Lib.hid (a4.alloc (.cells #[.slice A2 x.2.2.length c2] 32)); clear a4; have q9 : (w4.alloc (.cells #[.slice A2 x.2.2.length c2] 32)).cell? ⟨k, 1, none⟩ = some (.slice As ss.length cs) := (by rw [A5.out.cell]; rfl); have H2 := Lib.hid (own_chg h2 ((Chg.refl No w4).alloc (.cells #[.slice A2 x.2.2.length c2] 32)) (fun _ _ => id)); clear h2; have K4 := Lib.hid ((((Chg.refl No wb).drew).tr k2).alloc (.cells #[.slice A2 x.2.2.length c2] 32)); clear k2; have OS := Lib.hid (own_chg R1.out K4.out (fun _ _ => id)))
      | (refine step_app rfl (.tmp 24) (.tmp 27) 24 rfl b2 32 i0 _ 1 24 Try.underlying24 hi hz0 hz1 hz2 rfl (by decide) (.slice As ss.length cs) ss.length (ss.map slOf) rfl OS.out (some ⟨w4.heap.size, 0, none⟩) 1 1 [slOf (A2, c2, x.2.2)] rfl (RdV.lit w4 #[.slice A2 x.2.2.length c2] 32 (0, 0)) rfl (slOf_one [(A2, c2, x.2.2)]) (by have := L0.out.2; have := HLen.out; unfold maxLen; omega) (by have := L0.out.2; have := HLen.out; omega) (Nat.le_trans L0.out.1 (Nat.le_trans C1.out.size K4.out.size)) ?_; intro v5 w5 hap; have HA5 := Lib.hid hap; clear hap; obtain ⟨B5, c5, hv5, _⟩ := own_rd HA5.out.own; subst hv5; have a6 := A5.out.chg HA5.out.chg (fun e => own_ne_at OS.out A5.out (by decide) e); have hf6 := a6.frozen 1; have hq6 : w5.cell? ⟨k, 1, none⟩ = some (.slice As ss.length cs) := (by rw [a6.cell]; rfl); have A6 := Lib.hid a6; clear a6))
  all_goals
    go_wp2_with fail
    go_end0
    have k7 := chg_set w5 k 1 (.slice B5 (ss.length + 1) c5)
    have a7 := A6.out.set 1 (.slice B5 (ss.length + 1) c5)
    have NE1 : ∀ g, (Value.slice A3 (es.length + 1) c3).ownBlock = some g → (Value.slice As ss.length cs).ownBlock ≠ some g := fun g hg hs => by
      rcases HA.out.at_ with e | e
      · exact HNe.out g (e ▸ hg) hs
      · have h1 := (HSs.out.row.lt g hs).2
        have h2 := hg.symm.trans e
        injection h2 with h2
        simp at h2
        omega
    have NE2 : ∀ g, (Value.slice A3 (es.length + 1) c3).ownBlock = some g → (Value.slice B5 (ss.length + 1) c5).ownBlock ≠ some g := fun g hg hs => by
      rcases HA5.out.at_ with e | e
      · exact NE1 g hg (e ▸ hs)
      · have h1 := (O1.out.lt g hg).2
        have h2 := hs.symm.trans e
        injection h2 with h2
        have h3 := K4.out.size
        omega
    have hss := (OwnLL.mk OS.out (S1.out.new K4.out)).appd H2.out (Nat.le_trans L0.out.1 C1.out.size) (fun y hy g hg => ((S1.out.own y hy).lt g hg).2) HA5.out
    have hes : OwnL b1 wb (es ++ [x]) := ⟨fun y hy => by
      rcases List.mem_append.1 hy with h | h
      · exact E1.out.own y h
      · simp at h; subst h; exact X1.out, List.pairwise_append.2 ⟨E1.out.apart, by simp, fun y hy z hz => by simp at hz; subst hz; exact HD.out y hy⟩⟩
    refine ⟨rfl, ⟨HB.out.le, ⟨_, _, ss ++ [(A2, c2, x.2.2)], ⟨a7⟩, ?_, ⟨own_step hss.row k7 (at_one A6.out (by decide)), hss.each.step k7 (at_one A6.out (by decide))⟩, ?_, NE2⟩, ?_⟩, ?_⟩
    · have h1 := own_step (own_chg (own_chg O1.out K4.out (fun _ _ => id)) HA5.out.chg (fun b hb e => NE1 b hb e.symm)) k7 (at_one A6.out (by decide))
      simpa using h1
    · rw [txt_append, txt_append, HTx.out]; rfl
    · exact ((hes.new K4.out).step HA5.out.chg (own_at OS.out (by decide))).step k7 (at_one A6.out (by decide))
    · exact ((C1.out.new K4.out).trans HA5.out.chg (fun i _ hi => (OS.out.lt i hi.symm).1)).trans k7 (fun i _ hi => by have := HB.out.le.2; cases hi; exact this)
end Go.Proofs.Ytaoenbjfkahdjaa
namespace Go.Proofs.Ytaoenbjfkahdjaa
open Go.RowKit
set_option linter.unusedVariables false
set_option maxRecDepth 100000

set_option maxHeartbeats 2000000 in
theorem book_look (b1 b2 k : Nat) (es : Rows_) (w : World) (h : Bk b1 b2 w k es) (hn : es.length ≤ 1000000) :
    Calls Try.prog 79 #[.pointer (some ⟨k, 0, none⟩)] w fun e w' => e = .returned (.bool true) ∧ ∃ n, w' = w.drewN n := by
  obtain ⟨vb, vs, ss, hh, hrow, hss, htx, hne⟩ := h.ex
  obtain ⟨Ab, cb, rfl, hrb, _, _, _⟩ := own_rd hrow
  obtain ⟨As, cs, rfl, hrs, _, _, _⟩ := own_rd hss.row
  have hlen : ss.length = es.length := by have := congrArg List.length htx; simpa [txt] using this
  have HR : Hid (RdL w Ab es) := Lib.hid ⟨hrb, fun x hx => h.own.rd hx⟩
  have HR' : Hid (RdL w As ss) := Lib.hid ⟨hrs, fun x hx => hss.each.rd hx⟩
  have HE := Lib.hid htx
  have HN := Lib.hid hlen
  have hk0 : w.cell? ⟨k, 0, none⟩ = some (.slice Ab es.length cb) := by rw [hh.at_.cell]; rfl
  have hk1 : w.cell? ⟨k, 1, none⟩ = some (.slice As es.length cs) := by rw [hh.at_.cell, ← hlen]; rfl
  have hk2 : w.cell? ⟨k, 2, none⟩ = some (.slice none 0 0) := by rw [hh.at_.cell]; rfl
  have hk4 : w.cell? ⟨k, 4, none⟩ = some (.slice none 0 0) := by rw [hh.at_.cell]; rfl
  clear h hh hrow hss htx hne hrb hrs hlen
  go_enter Try.func79, Try.ntmps79
  go_wp2
  go_loopw [3] (fun i wr => ∃ q : Nat, q ≤ es.length ∧ i = .int .i64 q ∧ Hid (∃ n, wr = w.drewN n)) (fun i _ => es.length - (intOf i).toNat)
  case atStart => exact ⟨0, by omega, rfl, 0, rfl⟩
  case round =>
    obtain ⟨q, hq, rfl, HD⟩ := hrel
    obtain ⟨n, hn'⟩ := HD.out
    subst hn'
    clear HD
    have hk0' : (w.drewN n).cell? ⟨k, 0, none⟩ = some (.slice Ab es.length cb) := hk0
    have hk1' : (w.drewN n).cell? ⟨k, 1, none⟩ = some (.slice As es.length cs) := hk1
    have hk2' : (w.drewN n).cell? ⟨k, 2, none⟩ = some (.slice none 0 0) := hk2
    have hk4' : (w.drewN n).cell? ⟨k, 4, none⟩ = some (.slice none 0 0) := hk4
    by_cases hlt : q < es.length
    · have hlt' : q < ss.length := by have := HN.out; omega
      obtain ⟨⟨b, o, rfl, hc⟩, hx⟩ := HR.out.get hlt
      obtain ⟨⟨b', o', rfl, hc'⟩, hx'⟩ := HR'.out.get hlt'
      have hexy : es[q].2.2 = ss[q].2.2 := by
        have := congrArg (fun l => l[q]?) HE.out
        simpa [txt, hlt, hlt'] using this.symm
      have HXY := Lib.hid hexy
      have HX := Lib.hid hx
      have HX' := Lib.hid hx'
      clear hexy hx hx'
      generalize es[q] = x at *
      generalize ss[q] = y at *
      have hk6 : q < 1000000 := by omega
      have hli : (q : Int) < es.length := by omega
      have HQ : Hid (∀ W, Rd W x.1 x.2.2 → Rd W y.1 y.2.2 → Calls Try.prog 27 #[.slice x.1 x.2.2.length x.2.1, .slice y.1 y.2.2.length y.2.1] W fun e w' => e = .returned (.bool true) ∧ w' = W) := fun W h1 h2 => (same_any _ _ _ _ _ _ W h1 h2).mono fun e w' ⟨he, hw⟩ => ⟨by rw [he, HXY.out, beq_self_eq_true], hw.symm⟩
      go_wp2_with fail
      go_quiet ((go_at_call 27; exact quiet_add_same' (HQ.out _ (HX.out.drewN _) (HX'.out.drewN _))))
      go_wp2_with fail
      go_roundw
      case rel => exact ⟨q + 1, by omega, by go_num, _, rfl⟩
      case measure => simp [intOf]; omega
    · go_wp2_with fail
      go_loopw [4] (fun i wr => i = .int .i64 0 ∧ Hid (wr = w.drewN n)) (fun _ _ => 0)
      case atStart => exact ⟨rfl, rfl⟩
      case round =>
        obtain ⟨rfl, hw⟩ := hrel
        obtain rfl := hw.out
        clear hw
        go_wp2_with fail
        go_loopw [5] (fun i wr => i = .int .i64 0 ∧ Hid (wr = w.drewN n)) (fun _ _ => 0)
        case atStart => exact ⟨rfl, rfl⟩
        case round =>
          obtain ⟨rfl, hw⟩ := hrel
          obtain rfl := hw.out
          clear hw
          go_wp2_with fail
          go_ret
          exact ⟨rfl, _, rfl⟩

set_option maxHeartbeats 2000000 in
theorem close_words (k : Nat) (vb vs : Value) (w : World) (hh : BookHead w k vb vs) :
    Calls Try.prog 81 #[.pointer (some ⟨k, 0, none⟩)] w fun e w' => e = .returned (.bool true) ∧ w' = w := by
  have hk2 : w.cell? ⟨k, 2, none⟩ = some (.slice none 0 0) := by rw [hh.at_.cell]; rfl
  clear hh
  go_enter Try.func81, Try.ntmps81
  go_wp2
  go_loopw [3] (fun i wr => i = .int .i64 0 ∧ Hid (w = wr)) (fun _ _ => 0)
  case atStart => exact ⟨rfl, rfl⟩
  case round =>
    obtain ⟨rfl, hw⟩ := hrel
    obtain rfl := hw.out
    clear hw
    go_wp2_with fail
    go_loopw [5, 6] (fun gr i wr => gr = .slice none 0 0 ∧ i = .int .i64 0 ∧ Hid (w = wr)) (fun _ _ _ => 0)
    case atStart => exact ⟨rfl, rfl, rfl⟩
    case round =>
      obtain ⟨rfl, rfl, hw⟩ := hrel
      obtain rfl := hw.out
      clear hw
      go_wp2_with fail
      go_loopw [8] (fun i wr => i = .int .i64 0 ∧ Hid (w = wr)) (fun _ _ => 0)
      case atStart => exact ⟨rfl, rfl⟩
      case round =>
        obtain ⟨rfl, hw⟩ := hrel
        obtain rfl := hw.out
        clear hw
        go_wp2_with fail
        go_ret
        exact ⟨rfl, rfl⟩
set_option maxHeartbeats 2000000 in
theorem close_ints (k : Nat) (vb vs : Value) (w : World) (hh : BookHead w k vb vs) :
    Calls Try.prog 82 #[.pointer (some ⟨k, 0, none⟩)] w fun e w' => e = .returned (.bool true) ∧ w' = w := by
  have hk2 : w.cell? ⟨k, 4, none⟩ = some (.slice none 0 0) := by rw [hh.at_.cell]; rfl
  clear hh
  go_enter Try.func82, Try.ntmps82
  go_wp2
  go_loopw [3] (fun i wr => i = .int .i64 0 ∧ Hid (w = wr)) (fun _ _ => 0)
  case atStart => exact ⟨rfl, rfl⟩
  case round =>
    obtain ⟨rfl, hw⟩ := hrel
    obtain rfl := hw.out
    clear hw
    go_wp2_with fail
    go_loopw [5, 6] (fun gr i wr => gr = .slice none 0 0 ∧ i = .int .i64 0 ∧ Hid (w = wr)) (fun _ _ _ => 0)
    case atStart => exact ⟨rfl, rfl, rfl⟩
    case round =>
      obtain ⟨rfl, rfl, hw⟩ := hrel
      obtain rfl := hw.out
      clear hw
      go_wp2_with fail
      go_loopw [8] (fun i wr => i = .int .i64 0 ∧ Hid (w = wr)) (fun _ _ => 0)
      case atStart => exact ⟨rfl, rfl⟩
      case round =>
        obtain ⟨rfl, hw⟩ := hrel
        obtain rfl := hw.out
        clear hw
        go_wp2_with fail
        go_ret
        exact ⟨rfl, rfl⟩
end Go.Proofs.Ytaoenbjfkahdjaa
namespace Go.Proofs.Ytaoenbjfkahdjaa
open Go.RowKit
set_option linter.unusedVariables false
set_option maxRecDepth 100000

/-- The blocks of the rows. -/
def EntB (es : Rows_) : Nat → Prop := fun g => ∃ x ∈ es, (slOf x).ownBlock = some g
def fb (i : Nat) : UInt8 := UInt8.ofNat i
theorem ent_shape {es es' : Rows_} (h : es'.map slOf = es.map slOf) {g : Nat} (hg : EntB es' g) : EntB es g := by
  obtain ⟨x, hx, e⟩ := hg
  have : slOf x ∈ es.map slOf := h ▸ List.mem_map_of_mem (f := slOf) hx
  obtain ⟨y, hy, e'⟩ := List.mem_map.1 this
  exact ⟨y, hy, by rw [e', e]⟩
theorem ent_at {w : World} {b : Nat} {es : Rows_} (h : OwnL b w es) {t' : TypeId} (hne : 5 ≠ t') : ∀ g, EntB es g → ∃ t cs, At w g t cs ∧ t ≠ t' := fun g ⟨x, hx, hg⟩ => by
  obtain ⟨cur, hc⟩ := own_type (h.own x hx) hg
  exact ⟨_, cur, hc, hne⟩
theorem ent_not {w : World} {b k t : Nat} {cs : Array Value} {es : Rows_} (h : OwnL b w es) (hk : At w k t cs) (hne : 5 ≠ t) : ¬ EntB es k := fun hg => by
  obtain ⟨t', cs', ha, hn⟩ := ent_at h hne k hg
  exact ha.ne hk hn rfl

theorem own_set {w : World} {b e n g cap : Nat} {A : Option Addr} {xs : List Value} (h : w.ownsRow b e 1 (.slice (some ⟨g, 0, none⟩) n cap) n xs) (j : Nat) (hj : j < n) (u : Value) :
    (w.setCell ⟨g, j, none⟩ u).ownsRow b e 1 (.slice (some ⟨g, 0, none⟩) n cap) n (xs.set j u) := by
  rcases h.2 with ⟨h1, _⟩ | ⟨g', cap', cur, hv, hb, hh, hnc, hcm, hcs, htake⟩
  · cases h1
  · injection hv with h1 _ h2
    injection h1 with h1
    injection h1 with h1
    subst h1; subst h2
    refine ⟨by simpa using h.1, .inr ⟨g, cap, cur.setIfInBounds j u, rfl, hb, ?_, hnc, hcm, by simpa using hcs, ?_⟩⟩
    · exact At.set hh j u
    · rw [Array.toList_setIfInBounds, List.take_set, htake]

/-- A cell of a row is written. -/
theorem OwnL.put {w : World} {b : Nat} {es : Rows_} (h : OwnL b w es) {i : Nat} (hi : i < es.length) {j : Nat} (hj : j < es[i].2.2.length) :
    ∃ g, es[i].1 = some ⟨g, 0, none⟩ ∧ w.cell? ⟨g, j, none⟩ = some (bv es[i].2.2[j]) ∧ w.frozen? ⟨g, j, none⟩ = false ∧
      ∀ c : UInt8, OwnL b (w.setCell ⟨g, j, none⟩ (bv c)) (es.set i (es[i].1, es[i].2.1, es[i].2.2.set j c)) ∧ Chg (EntB es) w (w.setCell ⟨g, j, none⟩ (bv c)) := by
  have hx := h.own es[i] (List.getElem_mem hi)
  have hne : slOf es[i] ≠ .slice none 0 0 := fun e => by
    rw [e] at hx
    obtain ⟨h1, _⟩ := own_nil hx
    omega
  obtain ⟨g, cap, cur, hv, hb, hat, hnc, hcm, hcs, hcell⟩ := own_form hx hne
  unfold slOf at hv
  injection hv with h1 _ h2
  refine ⟨g, h1, ?_, hat.frozen j, fun c => ⟨⟨fun y hy => ?_, ?_⟩, ?_⟩⟩
  · rw [hat.cell, hcell j (by simpa using hj)]; simp
  · obtain ⟨q, hq, rfl⟩ := List.mem_iff_getElem.1 hy
    rw [List.getElem_set]
    simp at hq
    split
    · rename_i e
      subst e
      have hx' := hx
      unfold slOf at hx'
      rw [h1, h2] at hx'
      have h3 := own_set (A := none) hx' j hj (bv c)
      simp only [slOf, List.length_set, List.map_set]
      rw [h1, h2]
      exact h3
    · rename_i e
      refine own_chg (h.own es[q] (List.getElem_mem hq)) (chg_set w g j (bv c)) fun b' hb' hg => ?_
      cases hg
      have hp := List.pairwise_iff_getElem.1 h.apart
      rcases Nat.lt_or_gt_of_ne e with hlt | hlt
      · exact hp i q hi hq hlt g (by rw [slOf, h1]; rfl) hb'
      · exact hp q i hq hi hlt g hb' (by rw [slOf, h1]; rfl)
  · refine List.pairwise_iff_getElem.2 fun p q hp hq hpq => ?_
    simp at hp hq
    have := List.pairwise_iff_getElem.1 h.apart p q hp hq hpq
    have hs : ∀ r (hr : r < es.length), (slOf ((es.set i (es[i].1, es[i].2.1, es[i].2.2.set j c))[r]'(by simpa using hr))).ownBlock = (slOf es[r]).ownBlock := fun r hr => by
      rw [List.getElem_set]
      split
      · rename_i e; subst e; simp [slOf]
      · rfl
    intro g' hg'
    rw [hs q hq]
    rw [hs p hp] at hg'
    exact this g' hg'
  · exact (chg_set w g j (bv c)).mono fun b' _ hb' => by cases hb'; exact ⟨es[i], List.getElem_mem hi, by rw [slOf, h1]; rfl⟩
theorem shape_set {es : Rows_} {i : Nat} (hi : i < es.length) (l : List UInt8) (hl : l.length = es[i].2.2.length) : (es.set i (es[i].1, es[i].2.1, l)).map slOf = es.map slOf := by
  rw [List.map_set]
  have : slOf (es[i].1, es[i].2.1, l) = (es.map slOf)[i]'(by simpa using hi) := by simp [slOf, hl]
  rw [this, List.set_getElem_self]

theorem shape_get {es es' : Rows_} (h : es'.map slOf = es.map slOf) {q : Nat} (hq : q < es.length) : ∃ hq' : q < es'.length, es'[q].1 = es[q].1 ∧ es'[q].2.2.length = es[q].2.2.length ∧ es'[q].2.1 = es[q].2.1 := by
  have hl : es'.length = es.length := by simpa using congrArg List.length h
  refine ⟨by omega, ?_⟩
  have h1 : (es'.map slOf)[q]? = (es.map slOf)[q]? := by rw [h]
  rw [List.getElem?_map, List.getElem?_map, List.getElem?_eq_getElem hq, List.getElem?_eq_getElem (by omega)] at h1
  simp only [Option.map_some, slOf, Option.some.injEq] at h1
  injection h1 with a b c
  exact ⟨a, b, c⟩

/-- A row grows by two: it is read on, its fellows too. -/
theorem grow2 {w wA w1 wB w2 : World} {b : Nat} {es : Rows_} (h : OwnL b w es) {i : Nat} (hi : i < es.length) {v1 v2 : Value} {c1 c2 : UInt8} (hb : b ≤ w.heap.size)
    (kA : Chg No w wA) (a1 : Appd b 5 1 wA (slOf es[i]) es[i].2.2.length 1 (es[i].2.2.map bv ++ [bv c1]) v1 w1)
    (kB : Chg No w1 wB) (a2 : Appd b 5 1 wB v1 (es[i].2.2.length + 1) 1 (es[i].2.2.map bv ++ [bv c1] ++ [bv c2]) v2 w2) :
    OwnL b w2 es ∧ Chg (fun g => some g = (slOf es[i]).ownBlock) w w2 ∧ (∀ g, v2.ownBlock = some g → (slOf es[i]).ownBlock = some g ∨ w.heap.size ≤ g) := by
  have hA : w.heap.size ≤ wA.heap.size := kA.size
  have h1B : w1.heap.size ≤ wB.heap.size := kB.size
  have hA1 : wA.heap.size ≤ w1.heap.size := a1.chg.size
  have hv1 : ∀ g, v1.ownBlock = some g → (slOf es[i]).ownBlock = some g ∨ w.heap.size ≤ g := fun g hg => by
    rcases a1.at_ with e | e
    · exact .inl (e ▸ hg)
    · have h2 := hg.symm.trans e; injection h2 with h2; exact .inr (by omega)
  have kk : Chg (fun g => some g = (slOf es[i]).ownBlock) w w2 := by
    refine ((((kA.no).tr a1.chg).new kB).trans a2.chg fun g hg e => ?_)
    rcases hv1 g e.symm with h' | h'
    · exact h'.symm
    · omega
  refine ⟨⟨fun y hy => ?_, h.apart⟩, kk, fun g hg => ?_⟩
  · obtain ⟨q, hq, rfl⟩ := List.mem_iff_getElem.1 hy
    by_cases e : q = i
    · subst e
      have hk1 : w1.ownsRow b 5 1 (slOf es[q]) es[q].2.2.length (es[q].2.2.map bv) := by
        have := a1.keep
        simpa [List.take_append] using this
      have hkB := own_chg hk1 kB fun _ _ => id
      by_cases hs : ∃ g, (slOf es[q]).ownBlock = some g ∧ v1.ownBlock = some g
      · obtain ⟨g, hs1, hs2⟩ := hs
        have hvB := own_chg a1.own kB fun _ _ => id
        have hk2 := a2.keep
        rcases hkB.2 with ⟨e0, _⟩ | ⟨g', cap, cur, hv, hbg, hat, hnc, hcm, hcs, htake⟩
        · rw [e0] at hs1; simp [Value.ownBlock] at hs1
        · have hgg : g' = g := by rw [hv] at hs1; simpa [Value.ownBlock] using hs1
          subst hgg
          rcases hvB.2 with ⟨e0, _⟩ | ⟨g2, cap2, cur2, hv2, _, hat2, _, _, hcs2, _⟩
          · rw [e0] at hs2; simp [Value.ownBlock] at hs2
          · have hgg : g2 = g' := by rw [hv2] at hs2; simpa [Value.ownBlock] using hs2
            subst hgg
            have hcc := At.inj hat hat2
            subst hcc
            have hcap : cap = cap2 := by omega
            subst hcap
            rcases hk2.2 with ⟨e0, _⟩ | ⟨g3, cap3, cur3, hv3, _, hat3, _, _, hcs3, htake3⟩
            · rw [e0] at hs2; simp [Value.ownBlock] at hs2
            · rw [hv2] at hv3
              injection hv3 with e1 _ e2
              injection e1 with e1
              injection e1 with e1
              subst e1; subst e2
              refine ⟨by simp, .inr ⟨g2, cap, cur3, hv, hbg, hat3, hnc, hcm, hcs3, ?_⟩⟩
              have h5 := congrArg (List.take es[q].2.2.length) htake3
              have h6 : List.take (es[q].2.2.length + 1) (es[q].2.2.map bv) = es[q].2.2.map bv := List.take_of_length_le (by simp)
              simpa [List.take_take, List.take_append, h6] using h5
      · exact own_chg hkB a2.chg fun g hg e => hs ⟨g, hg, e.symm⟩
    · refine own_chg (h.own es[q] (List.getElem_mem hq)) kk fun g hg hg' => ?_
      have hp := List.pairwise_iff_getElem.1 h.apart
      rcases Nat.lt_or_gt_of_ne e with hlt | hlt
      · exact hp q i hq hi hlt g hg hg'.symm
      · exact hp i q hi hq hlt g hg'.symm hg
  · rcases a2.at_ with e | e
    · exact hv1 g (e ▸ hg)
    · have h2 := hg.symm.trans e; injection h2 with h2; exact .inr (by omega)
end Go.Proofs.Ytaoenbjfkahdjaa
