/- Joined, as they were built one by one: OwnR Got TabRd Rgn. -/
import Derived.Test.YtaoenbjfkahdjaaQ01
import Derived.Test.YtaoenbjfkahdjaaQ02
import Derived.Test.YtaoenbjfkahdjaaQ05
namespace Go.Proofs.Ytaoenbjfkahdjaa
open Go.RowKit
set_option linter.unusedVariables false
set_option maxRecDepth 100000

def OwnR : Rows_ → SP
  | [] => Emp
  | x :: ks => Row 5 1 (slOf x) x.2.2.length (x.2.2.map bv) * OwnR ks
theorem ownR_snoc (x : Option Addr × Nat × List UInt8) : ∀ ks : Rows_, OwnR (ks ++ [x]) = Row 5 1 (slOf x) x.2.2.length (x.2.2.map bv) * OwnR ks
  | [] => rfl
  | y :: ks => by
    show Row _ _ _ _ _ * OwnR (ks ++ [x]) = _
    rw [ownR_snoc x ks]
    show _ = Row _ _ _ _ _ * (Row _ _ _ _ _ * OwnR ks)
    ac_rfl
theorem row_block {e : TypeId} {size n : Nat} {v : Value} {xs : List Value} {h : Hp} (hr : Row e size v n xs h) {g : Nat} (hg : v.ownBlock = some g) : ∃ o, h g = some (false, o) := by
  rcases hr.2 with ⟨rfl, _⟩ | ⟨g', cap, cur, rfl, _, _, _, _, hp⟩
  · simp [Value.ownBlock] at hg
  · simp [Value.ownBlock] at hg
    subst hg
    unfold Pt Ow at hp
    exact ⟨.cells cur e (0, 0), by rw [hp]; unfold one1; simp⟩
theorem ownR_block : ∀ {ks : Rows_} {h : Hp}, OwnR ks h → ∀ x ∈ ks, ∀ g, (slOf x).ownBlock = some g → ∃ o, h g = some (false, o)
  | [], _, _, x, hx, _, _ => by simp at hx
  | y :: ks, h, hh, x, hx, g, hg => by
    obtain ⟨a, b, h1, rfl, h3, h4⟩ := hh
    rcases List.mem_cons.1 hx with rfl | hx
    · obtain ⟨o, ho⟩ := row_block h3 hg
      exact ⟨o, by unfold Hp.un; rw [ho]; rfl⟩
    · obtain ⟨o, ho⟩ := ownR_block h4 x hx g hg
      refine ⟨o, ?_⟩
      unfold Hp.un
      rcases h1 g with q | q | ⟨o', q, q'⟩
      · rw [q]; exact ho
      · rw [ho] at q; cases q
      · rw [ho] at q'; injection q' with q'; injection q' with q' _; cases q'
section
variable {w0 w w' : World} {F : SP} {ks : Rows_}
theorem ownR_ownL : ∀ {ks : Rows_} {F : SP}, Sat w0 (OwnR ks * F) w → OwnL w0.heap.size w ks
  | [], _, _ => OwnL.nil _ _
  | x :: ks, F, h => by
    have h1 : Sat w0 (Row 5 1 (slOf x) x.2.2.length (x.2.2.map bv) * (OwnR ks * F)) w := h.of (star_assoc _ _ _)
    have ih := ownR_ownL h1.right
    refine ⟨fun y hy => ?_, List.pairwise_cons.2 ⟨fun y hy g hg hg' => ?_, ih.apart⟩⟩
    · rcases List.mem_cons.1 hy with rfl | hy
      · exact h1.row_own
      · exact ih.own y hy
    · obtain ⟨c, z, z1, a, f, z2, rfl, z4, b, f', z5, rfl, z6, z7⟩ := h1
      obtain ⟨o, ho⟩ := row_block z4 hg
      obtain ⟨o', ho'⟩ := ownR_block z6 y hy g hg'
      have e : (b.un f') g = some (false, o') := by unfold Hp.un; rw [ho']; rfl
      rcases z2 g with q | q | ⟨o'', q, q'⟩
      · rw [ho] at q; cases q
      · rw [e] at q; cases q
      · rw [ho] at q; injection q with q; injection q with q _; cases q
end
end Go.Proofs.Ytaoenbjfkahdjaa
namespace Go.Proofs.Ytaoenbjfkahdjaa
open Go.RowKit
set_option linter.unusedVariables false
set_option maxRecDepth 100000

theorem Sat.gather {w0 w w' : World} {A F : SP} (h : Sat w0 F w) (k : Chg No w w') (a : Hp) (hA : A a) (ha : ∀ i x, a i = some x → w'.heap[i]? = some x.2 ∧ w.heap.size ≤ i) : Sat w0 (A * F) w' := by
  obtain ⟨f, h1, hf⟩ := h.hp
  have hs := h.size
  refine ⟨h.chg.tr k, a.un f, fun i x hx => ?_, a, f, fun i => ?_, rfl, hA, hf⟩
  · unfold Hp.un jn at hx
    cases hq : a i with
    | some y =>
      rw [hq] at hx
      injection hx with hx
      subst hx
      have h2 := ha i y hq
      exact ⟨h2.1, fun _ => Nat.le_trans hs h2.2⟩
    | none =>
      rw [hq] at hx
      have h2 := h1 i x hx
      refine ⟨?_, h2.2⟩
      rw [k.block i (lt_of_block h2.1) id]
      exact h2.1
  · cases hq : a i with
    | none => exact .inl rfl
    | some y =>
      cases hr : f i with
      | none => exact .inr (.inl rfl)
      | some z =>
        have h2 := lt_of_block (h1 i z hr).1
        have h3 := (ha i y hq).2
        omega
theorem row_hp {w : World} {base e size n : Nat} {v : Value} {xs : List Value} (h : w.ownsRow base e size v n xs) : ∃ a : Hp, Row e size v n xs a ∧ ∀ i x, a i = some x → w.heap[i]? = some x.2 ∧ base ≤ i ∧ v.ownBlock = some i := by
  obtain ⟨hl, ⟨rfl, rfl⟩ | ⟨g, cap, cur, rfl, h1, h2, h3, h4, h5, h6⟩⟩ := h
  · exact ⟨fun _ => none, ⟨hl, .inl ⟨rfl, rfl, rfl⟩⟩, fun i x hx => by cases hx⟩
  · refine ⟨one1 g (false, .cells cur e (0, 0)), ⟨hl, .inr ⟨g, cap, cur, rfl, h3, h4, h5, h6, rfl⟩⟩, fun i x hx => ?_⟩
    unfold one1 at hx
    split at hx
    · rename_i e1
      injection hx with hx
      subst hx
      subst e1
      exact ⟨h2, h1, rfl⟩
    · cases hx
theorem rows_hp {w : World} {base : Nat} : ∀ {rs : Rows_}, OwnL base w rs → ∃ a : Hp, OwnR rs a ∧ ∀ i x, a i = some x → w.heap[i]? = some x.2 ∧ base ≤ i ∧ ∃ y ∈ rs, (slOf y).ownBlock = some i
  | [], _ => ⟨fun _ => none, rfl, fun i x hx => by cases hx⟩
  | y :: rs, h => by
    obtain ⟨a, ha, hf⟩ := rows_hp (rs := rs) ⟨fun x hx => h.own x (List.mem_cons_of_mem _ hx), (List.pairwise_cons.1 h.apart).2⟩
    obtain ⟨b, hb, hg⟩ := row_hp (h.own y List.mem_cons_self)
    refine ⟨b.un a, ⟨b, a, fun i => ?_, rfl, hb, ha⟩, fun i x hx => ?_⟩
    · cases hq : b i with
      | none => exact .inl rfl
      | some u =>
        cases hr : a i with
        | none => exact .inr (.inl rfl)
        | some z =>
          obtain ⟨_, _, y', hy', e'⟩ := hf i z hr
          exact absurd e' ((List.pairwise_cons.1 h.apart).1 y' hy' i (hg i u hq).2.2)
    · unfold Hp.un jn at hx
      cases hq : b i with
      | some u =>
        rw [hq] at hx
        injection hx with hx
        subst hx
        have h2 := hg i u hq
        exact ⟨h2.1, h2.2.1, y, List.mem_cons_self, h2.2.2⟩
      | none =>
        rw [hq] at hx
        obtain ⟨h2, h3, y', hy', e'⟩ := hf i x hx
        exact ⟨h2, h3, y', List.mem_cons_of_mem _ hy', e'⟩
/-- A list of rows that a call has made. -/
theorem Sat.gotLL {w0 w w' : World} {F : SP} {v : Value} {rs : Rows_} (h : Sat w0 F w) (k : Chg No w w') (hv : OwnLL w.heap.size w' v rs) : Sat w0 (Row 32 1 v rs.length (rs.map slOf) * (OwnR rs * F)) w' := by
  obtain ⟨a, ha, hf⟩ := rows_hp hv.each
  obtain ⟨b, hb, hg⟩ := row_hp hv.row
  refine (Sat.gather h k (A := Row 32 1 v rs.length (rs.map slOf) * OwnR rs) (b.un a) ⟨b, a, fun i => ?_, rfl, hb, ha⟩ fun i x hx => ?_).of (star_assoc _ _ _)
  · cases hq : b i with
    | none => exact .inl rfl
    | some u =>
      cases hr : a i with
      | none => exact .inr (.inl rfl)
      | some z =>
        obtain ⟨_, _, y', hy', e'⟩ := hf i z hr
        exact absurd (hg i u hq).2.2 (fun e2 => own_ne (hv.each.own y' hy') hv.row (by decide) i e' e2)
  · unfold Hp.un jn at hx
    cases hq : b i with
    | some u =>
      rw [hq] at hx
      injection hx with hx
      subst hx
      have h2 := hg i u hq
      exact ⟨h2.1, h2.2.1⟩
    | none =>
      rw [hq] at hx
      obtain ⟨h2, h3, _⟩ := hf i x hx
      exact ⟨h2, h3⟩
theorem OwnR_rd {w0 w : World} {F : SP} {ks : Rows_} (h : Sat w0 (OwnR ks * F) w) {x : Option Addr × Nat × List UInt8} (hx : x ∈ ks) : Rd w x.1 x.2.2 := (ownR_ownL h).rd hx
end Go.Proofs.Ytaoenbjfkahdjaa
namespace Go.Proofs.Ytaoenbjfkahdjaa
open Go.RowKit
set_option linter.unusedVariables false
set_option maxRecDepth 100000

/-- So many bytes: what is told, what is left, whether there were too few. -/
def takeP (n : Nat) (q : List UInt8) (s : Bool) : List UInt8 × List UInt8 × Bool := if s = true ∨ q.length < n then (List.replicate (min n 8) 0, q, true) else (q.take n, q.drop n, false)
theorem takeP_short {n : Nat} {q : List UInt8} {s : Bool} (h : s = true ∨ q.length < n) : takeP n q s = (List.replicate (min n 8) 0, q, true) := if_pos h
theorem takeP_ok {n : Nat} {q : List UInt8} (h : n ≤ q.length) : takeP n q false = (q.take n, q.drop n, false) := by
  unfold takeP
  rw [if_neg (by simp; omega)]
/-- A reader in memory. -/
def Rdr (w0 : World) (R : Nat) (F : SP) (q : List UInt8) (s : Bool) (w : World) : Prop := ∃ A c, Sat w0 (Pt R 113 #[.slice A q.length c, .bool s] * F) w ∧ Rd w0 A q ∧ q.length ≤ c ∧ c ≤ maxLen
theorem run_make_8 (n : Nat) (hn : n ≤ 8) (W : World) : (Instr.makeSlice 32 (.int .i64 (n : Int)) (.int .i64 (n : Int))).run Try.prog W =
    .ok (.slice (some ⟨W.heap.size, 0, none⟩) n n) (W.alloc (.cells (madeCells #[.int .u8 0] n) 5)) := by
  obtain ⟨i0, hi, hz0, hz1, hz2⟩ := info_parts info_u8o
  have hr := run_make (P := Try.prog) W 32 5 i0 _ Try.underlying32 hi hz0 .i64 .i64 n n (by omega) (by omega) (by rw [hz2]; omega) (by omega)
  have hc : (Value.int .u8 0).cells = #[.int .u8 0] := rfl
  simpa [hz1, hc] using hr
def Took (w0 : World) (R : Nat) (F : SP) (p : List UInt8 × List UInt8 × Bool) (e : Ending) (w' : World) : Prop :=
  ∃ B d, e = .returned (.slice B p.1.length d) ∧ Rd w' B p.1 ∧ (p.2.2 = false → Rd w0 B p.1) ∧ p.1.length ≤ d ∧ d ≤ maxLen ∧ Rdr w0 R F p.2.1 p.2.2 w'
set_option maxHeartbeats 2000000 in
theorem take_any (n : Nat) (hn : n ≤ 65536) (R : Nat) (F : SP) (q : List UInt8) (s : Bool) (w0 w : World) (h : Rdr w0 R F q s w) (hql : q.length ≤ 140737488355328) :
    Calls Try.prog 61 #[.pointer (some ⟨R, 0, none⟩), .int .i64 (n : Int)] w (Took w0 R F (takeP n q s)) := by
  obtain ⟨A, c, hs, hr, hc, hm⟩ := h
  have c0 := hs.cell 0; have c1 := hs.cell 1
  have f0 := hs.frozen 0; have f1 := hs.frozen 1
  have HS := Lib.hid hs
  have HR := Lib.hid hr
  unfold maxLen at hm
  clear hs hr
  by_cases hsh : s = true ∨ q.length < n
  · have HT := Lib.hid (takeP_short hsh)
    have hmin : min (n : Int) 8 = ((min n 8 : Nat) : Int) := by omega
    obtain ⟨k, hk⟩ : ∃ k, min n 8 = k := ⟨_, rfl⟩
    have hk8 : k ≤ 8 := by omega
    have hmk := run_make_8 k hk8
    rw [HT.out, hk]
    rw [hk] at hmin
    have HK := Lib.hid hk
    clear hk
    have HD : Hid (∀ W, Sat w0 (Pt R 113 #[.slice A q.length c, .bool true] * F) W → Took w0 R F (List.replicate k 0, q, true) (.returned (.slice (some ⟨W.heap.size, 0, none⟩) k k)) (W.alloc (.cells (madeCells #[.int .u8 0] k) 5))) := fun W hW =>
      ⟨some ⟨W.heap.size, 0, none⟩, k, by simp, by
        have h0 := RdV.lit W (madeCells #[.int .u8 0] k) 5 (0, 0)
        have e : (madeCells #[.int .u8 0] k).toList = (List.replicate k (0 : UInt8)).map bv := by
          rw [List.map_replicate]
          simp [madeCells, bv, Nat.mod_one, List.map_const']
        rw [e] at h0
        exact h0, by simp, by simp, by unfold maxLen; omega, A, c, hW.alloc' _, HR.out, hc, by unfold maxLen; omega⟩
    have HTr := HD
    rcases Nat.lt_or_ge 8 n with h8 | h8
    case' inr =>
      have hkn : k = n := by have := HK.out; omega
      subst hkn
      have hmz := hmk
      have hmi : ¬ (8 : Int) < k := by omega
    case' inl =>
      have hkn : k = 8 := by have := HK.out; omega
      subst hkn
      have hmz : ∀ W : World, (Instr.makeSlice 32 (.int .i64 8) (.int .i64 8)).run Try.prog W = .ok (.slice (some ⟨W.heap.size, 0, none⟩) 8 8) (W.alloc (.cells (madeCells #[.int .u8 0] 8) 5)) := run_make_8 8 (by omega)
      have hmi : (8 : Int) < n := by omega
    all_goals
      clear hmk hmin HK
      cases s
      case true =>
        go_enter Try.func61, Try.ntmps61
        go_wp2_with fail
        go_ret
        have h9 := HD.out _ (HS.out.set 1 (.bool true))
        rw [show (w.setCell ⟨R, 1, none⟩ (.bool true)).heap.size = w.heap.size by simp] at h9
        exact h9
      case false =>
        have hlt := hsh.resolve_left (by decide)
        go_enter Try.func61, Try.ntmps61
        go_wp2_with fail
        go_ret
        have h9 := HD.out _ (HS.out.set 1 (.bool true))
        rw [show (w.setCell ⟨R, 1, none⟩ (.bool true)).heap.size = w.heap.size by simp] at h9
        exact h9
  · have hs : s = false := by cases s; rfl; simp at hsh
    subst hs
    have hle : n ≤ q.length := by simp at hsh; omega
    have hlt : ¬ (q.length : Int) < n := by omega
    have hlt2 : (n : Int) ≤ q.length := by omega
    have HT := Lib.hid (takeP_ok hle)
    rw [HT.out]
    have HD : Hid (∀ W A' c' cx, A' = (if c = n then A else A.map (·.add n)) → c' = c - n → cx = c → Sat w0 (Pt R 113 #[.slice A' (q.drop n).length c', .bool false] * F) W → Took w0 R F (q.take n, q.drop n, false) (.returned (.slice A (q.take n).length cx)) W) := fun W A' c' cx e1 e2 e3 hW => by
      subst e1 e2 e3
      exact ⟨A, cx, rfl, (HR.out.take n).new hW.chg, fun _ => HR.out.take n, by simp; omega, by unfold maxLen; omega, _, _, hW, HR.out.drop hle hc, by simp; omega, by unfold maxLen; omega⟩
    rw [show (q.take n).length = n by simp; omega, show (q.drop n).length = q.length - n by simp] at HD
    clear hsh
    go_enter Try.func61, Try.ntmps61
    go_wp2_with fail
    all_goals
      go_ret
      first
        | exact HD.out _ _ _ _ (by rw [if_pos ‹c = n›]) (by omega) (by omega) (HS.out.set 0 _)
        | exact HD.out _ _ _ _ (by rw [if_neg ‹¬ c = n›]) (by omega) (by omega) (HS.out.set 0 _)
end Go.Proofs.Ytaoenbjfkahdjaa
namespace Go.Proofs.Ytaoenbjfkahdjaa
open Go.RowKit
set_option linter.unusedVariables false
set_option maxRecDepth 100000

section
variable {P : Program} {l : List Oper} {Q : Exit → Act → World → Prop} {md : Region.Mode} {S : World → Prop}
/-- An operation that only reads. -/
theorem rgn_take {i : Nat} {oi : Oper} {v : Value} {fuel : Nat} {listed : Array Bool} {a : Act} {w : World} (hi : l[i]? = some oi)
    (hs : Region.noSelect l.toArray = true) (hf : Region.free md l.toArray listed i = true) (hr : (Region.ready md l.toArray listed).contains i = true)
    (hQ : ∀ c a w, Q (.panic c) (a.put oi.dst v) w → Q (.panic c) a w) (hy : Region.wanted oi (yielded l.toArray a.tmps) = true) (hy2 : ∀ w, S w → (execOp a.eval oi).run P w = .ok (.value v) w) (hS : S w)
    (h : wpAnyH P md l.toArray Q S fuel (listed.setIfInBounds i true) (a.put oi.dst v) w) : wpAnyH P md l.toArray Q S (fuel + 1) listed a w :=
  wpAnyH_take (by simpa using hi) hs hf hr hQ (.inl ⟨hy, hy2⟩) hS h
/-- One whose guard says no. -/
theorem rgn_skip {i : Nat} {oi : Oper} {fuel : Nat} {listed : Array Bool} {a : Act} {w : World} (hi : l[i]? = some oi)
    (hs : Region.noSelect l.toArray = true) (hf : Region.free md l.toArray listed i = true) (hr : (Region.ready md l.toArray listed).contains i = true)
    (hQ : ∀ c a w, Q (.panic c) (a.put oi.dst undef) w → Q (.panic c) a w) (hy : Region.wanted oi (yielded l.toArray a.tmps) = false) (hS : S w)
    (h : wpAnyH P md l.toArray Q S fuel (listed.setIfInBounds i true) (a.put oi.dst undef) w) : wpAnyH P md l.toArray Q S (fuel + 1) listed a w :=
  wpAnyH_take (by simpa using hi) hs hf hr hQ (.inr ⟨hy, rfl⟩) hS h
/-- One that changes the world. -/
theorem rgn_call {i : Nat} {oi : Oper} {fuel : Nat} {listed : Array Bool} {a : Act} {w : World} (hi : l[i]? = some oi) (hr : Region.ready md l.toArray listed = [i])
    (h : ∀ K : Act → World → Prop, Shut (∀ a w, S w → (S w → wpAnyH P md l.toArray Q S fuel (listed.setIfInBounds i true) a w) → K a w) → if Region.wanted oi (yielded l.toArray a.tmps) = true then Oper.wp P oi a w K Q else K (a.put oi.dst undef) w) :
    wpAnyH P md l.toArray Q S (fuel + 1) listed a w :=
  wpAnyH_ready hr (by simp) (AllReadyH.cons (by simpa using hi) h AllReadyH.nil)
/-- Either of two. -/
theorem rgn_both {i j : Nat} {oi oj : Oper} {fuel : Nat} {listed : Array Bool} {a : Act} {w : World} (hi : l[i]? = some oi) (hj : l[j]? = some oj) (hr : Region.ready md l.toArray listed = [i, j])
    (h : ∀ K : Act → World → Prop, Shut (∀ a w, S w → (S w → wpAnyH P md l.toArray Q S fuel (listed.setIfInBounds i true) a w) → K a w) → if Region.wanted oi (yielded l.toArray a.tmps) = true then Oper.wp P oi a w K Q else K (a.put oi.dst undef) w)
    (k : ∀ K : Act → World → Prop, Shut (∀ a w, S w → (S w → wpAnyH P md l.toArray Q S fuel (listed.setIfInBounds j true) a w) → K a w) → if Region.wanted oj (yielded l.toArray a.tmps) = true then Oper.wp P oj a w K Q else K (a.put oj.dst undef) w) :
    wpAnyH P md l.toArray Q S (fuel + 1) listed a w :=
  wpAnyH_ready hr (by simp) (AllReadyH.cons (by simpa using hi) h (AllReadyH.cons (by simpa using hj) k AllReadyH.nil))
/-- Any of 3. -/
theorem rgn_three {i j k : Nat} {oi oj ok : Oper} {fuel : Nat} {listed : Array Bool} {a : Act} {w : World} (hi0 : l[i]? = some oi) (hj0 : l[j]? = some oj) (hk0 : l[k]? = some ok) (hr : Region.ready md l.toArray listed = [i, j, k])
    (hi : ∀ K : Act → World → Prop, Shut (∀ a w, S w → (S w → wpAnyH P md l.toArray Q S fuel (listed.setIfInBounds i true) a w) → K a w) → if Region.wanted oi (yielded l.toArray a.tmps) = true then Oper.wp P oi a w K Q else K (a.put oi.dst undef) w)
    (hj : ∀ K : Act → World → Prop, Shut (∀ a w, S w → (S w → wpAnyH P md l.toArray Q S fuel (listed.setIfInBounds j true) a w) → K a w) → if Region.wanted oj (yielded l.toArray a.tmps) = true then Oper.wp P oj a w K Q else K (a.put oj.dst undef) w)
    (hk : ∀ K : Act → World → Prop, Shut (∀ a w, S w → (S w → wpAnyH P md l.toArray Q S fuel (listed.setIfInBounds k true) a w) → K a w) → if Region.wanted ok (yielded l.toArray a.tmps) = true then Oper.wp P ok a w K Q else K (a.put ok.dst undef) w) :
    wpAnyH P md l.toArray Q S (fuel + 1) listed a w :=
  wpAnyH_ready hr (by simp) (AllReadyH.cons (by simpa using hi0) hi (AllReadyH.cons (by simpa using hj0) hj (AllReadyH.cons (by simpa using hk0) hk AllReadyH.nil)))
/-- Any of 4. -/
theorem rgn_four {i j k m : Nat} {oi oj ok om : Oper} {fuel : Nat} {listed : Array Bool} {a : Act} {w : World} (hi0 : l[i]? = some oi) (hj0 : l[j]? = some oj) (hk0 : l[k]? = some ok) (hm0 : l[m]? = some om) (hr : Region.ready md l.toArray listed = [i, j, k, m])
    (hi : ∀ K : Act → World → Prop, Shut (∀ a w, S w → (S w → wpAnyH P md l.toArray Q S fuel (listed.setIfInBounds i true) a w) → K a w) → if Region.wanted oi (yielded l.toArray a.tmps) = true then Oper.wp P oi a w K Q else K (a.put oi.dst undef) w)
    (hj : ∀ K : Act → World → Prop, Shut (∀ a w, S w → (S w → wpAnyH P md l.toArray Q S fuel (listed.setIfInBounds j true) a w) → K a w) → if Region.wanted oj (yielded l.toArray a.tmps) = true then Oper.wp P oj a w K Q else K (a.put oj.dst undef) w)
    (hk : ∀ K : Act → World → Prop, Shut (∀ a w, S w → (S w → wpAnyH P md l.toArray Q S fuel (listed.setIfInBounds k true) a w) → K a w) → if Region.wanted ok (yielded l.toArray a.tmps) = true then Oper.wp P ok a w K Q else K (a.put ok.dst undef) w)
    (hm : ∀ K : Act → World → Prop, Shut (∀ a w, S w → (S w → wpAnyH P md l.toArray Q S fuel (listed.setIfInBounds m true) a w) → K a w) → if Region.wanted om (yielded l.toArray a.tmps) = true then Oper.wp P om a w K Q else K (a.put om.dst undef) w) :
    wpAnyH P md l.toArray Q S (fuel + 1) listed a w :=
  wpAnyH_ready hr (by simp) (AllReadyH.cons (by simpa using hi0) hi (AllReadyH.cons (by simpa using hj0) hj (AllReadyH.cons (by simpa using hk0) hk (AllReadyH.cons (by simpa using hm0) hm AllReadyH.nil))))
end
end Go.Proofs.Ytaoenbjfkahdjaa
