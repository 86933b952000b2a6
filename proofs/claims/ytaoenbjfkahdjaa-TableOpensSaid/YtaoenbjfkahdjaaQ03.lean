/- Joined, as they were built one by one: App Octet Crc OGet Clone Mem1. -/
import Derived.Laws.BitsAllLaws
import Derived.Lib.Bytealg
import Derived.Lib.UnsafeStr
import Derived.Laws.Externs
import Derived.StringKeys
import Derived.Test.YtaoenbjfkahdjaaQ02
namespace Go.Proofs.Ytaoenbjfkahdjaa
open Go.RowKit
set_option linter.unusedVariables false
set_option maxRecDepth 100000

section
variable {P : Program} {w0 w : World} {F : SP} {ops : Array Oper} {o : Oper} {a : Act}
theorem Sat.row_sl {e : TypeId} {size n : Nat} {v : Value} {xs : List Value} (h : Sat w0 (Row e size v n xs * F) w) : ∃ A c, v = .slice A n c ∧ n ≤ c ∧ c ≤ maxLen := by
  obtain ⟨_, ⟨e1, e2, _⟩ | ⟨g, cap, cur, e1, h1, h2, _⟩⟩ := h.row_cases
  · exact ⟨none, 0, by rw [e1, e2], by omega, Nat.zero_le _⟩
  · exact ⟨_, _, e1, h1, h2⟩
/-- A row that is not empty: its head, its cells. -/
theorem Sat.row_at {e : TypeId} {size n : Nat} {A : Option Addr} {c : Nat} {xs : List Value} (h : Sat w0 (Row e size (.slice A n c) n xs * F) w) (hn : 0 < n) :
    ∃ g, A = some ⟨g, 0, none⟩ ∧ ∀ j (hj : j < xs.length), w.cell? ⟨g, j, none⟩ = some xs[j] := by
  obtain ⟨hl, ⟨_, e2, _⟩ | ⟨g, cap, cur, e1, h1, h2, h3, h4, h5⟩⟩ := h.row_cases
  · omega
  · injection e1 with e1 _ e3
    refine ⟨g, e1, fun j hj => ?_⟩
    rw [h5.cell]
    have h6 : xs[j]? = some xs[j] := List.getElem?_eq_getElem hj
    rw [← h6, ← h4, List.getElem?_take, if_pos (by omega)]
    simp
theorem Sat.row_setj {e : TypeId} {size n c g j : Nat} {xs : List Value} (h : Sat w0 (Row e size (.slice (some ⟨g, 0, none⟩) n c) n xs * F) w) (u : Value) :
    Sat w0 (Row e size (.slice (some ⟨g, 0, none⟩) n c) n (xs.set j u) * F) (w.setCell ⟨g, j, none⟩ u) := by
  obtain ⟨hl, ⟨e1, e2, _⟩ | ⟨g', cap, cur, e1, h1, h2, h3, h4, h5⟩⟩ := h.row_cases
  · cases e1
  · injection e1 with e1 _ e3
    injection e1 with e1
    injection e1 with e1
    subst e1; subst e3
    have h6 := (h5.set j u).row_pt (n := n) (cap := c) (size := size) h1 h2 (by simpa using h3)
    have e : (cur.setIfInBounds j u).toList.take (n * size) = xs.set j u := by rw [Array.toList_setIfInBounds, List.take_set, h4]
    rwa [e] at h6
theorem Sat.row_free {e : TypeId} {size n c g : Nat} {xs : List Value} (h : Sat w0 (Row e size (.slice (some ⟨g, 0, none⟩) n c) n xs * F) w) (j : Nat) : w.frozen? ⟨g, j, none⟩ = false := by
  obtain ⟨hl, ⟨e1, e2, _⟩ | ⟨g', cap, cur, e1, h1, h2, h3, h4, h5⟩⟩ := h.row_cases
  · cases e1
  · injection e1 with e1 _ e3
    injection e1 with e1
    injection e1 with e1
    subst e1
    exact h5.frozen j
theorem Sat.row_cell {e : TypeId} {size n c g : Nat} {xs : List Value} (h : Sat w0 (Row e size (.slice (some ⟨g, 0, none⟩) n c) n xs * F) w) {j : Nat} (hj : j < xs.length) : w.cell? ⟨g, j, none⟩ = some xs[j] := by
  obtain ⟨hl, ⟨e1, e2, _⟩ | ⟨g', cap, cur, e1, h1, h2, h3, h4, h5⟩⟩ := h.row_cases
  · cases e1
  · injection e1 with e1 _ e3
    injection e1 with e1
    injection e1 with e1
    subst e1
    rw [h5.cell]
    have h6 : xs[j]? = some xs[j] := List.getElem?_eq_getElem hj
    rw [← h6, ← h4, List.getElem?_take, if_pos (by omega)]
    simp
theorem run_appS (t ty e : TypeId) (i : TypeInfo) (z : Value) (size bytes : Nat) (ht : P.underlying t = some (.slice e)) (hi : P.info? e = some i) (hz : i.zero = some z)
    (hsize : i.size = size) (hby : i.bytes = bytes) (hzs : z.cells.size = size) (hsz : 0 < size)
    (v : Value) (n : Nat) (xs : List Value) (hS : Sat w0 (Row e size v n xs * F) w)
    (A : Option Addr) (m c : Nat) (news : List Value) (hr : RdV w A news) (hm : news.length = m * size) (h1 : ∀ u ∈ news, u.oneCell' = true)
    (h63 : n + m ≤ maxLen) (hbytes : (n + m) * bytes ≤ 140737488355328) :
    ∃ A' c' w', (Builtin.append_ #[t, t] ty #[v, .slice A m c]).run P w = .ok (.slice A' (n + m) c') w' ∧ Sat w0 (Row e size (.slice A' (n + m) c') (n + m) (xs ++ news) * F) w' := by
  obtain ⟨v', w', hrun, h2⟩ := run_app (P := P) w0.heap.size t ty e i z size bytes ht hi hz hsize hby hzs hsz v n xs hS.row_own A m c news hr hm h1 h63 hbytes hS.size
  have h3 := hS.appd h2
  obtain ⟨A', c', rfl, _⟩ := h3.row_sl
  exact ⟨A', c', w', hrun, h3⟩
theorem wpList_appS {rest : List Oper} {Q : Exit → Act → World → Prop} (hgd : o.guard = none) (s x : Operand) (t : TypeId)
    (ho : o.op = .call { callee := .builtin .append, args := #[s, x], argTypes := #[t, t] })
    (e : TypeId) (i : TypeInfo) (z : Value) (size bytes : Nat) (ht : P.underlying t = some (.slice e)) (hi : P.info? e = some i) (hz : i.zero = some z)
    (hsize : i.size = size) (hby : i.bytes = bytes) (hzs : z.cells.size = size) (hsz : 0 < size)
    (v : Value) (n : Nat) (xs : List Value) (hs : a.eval s = v) (w0 : World) (F : SP) (hS : Sat w0 (Row e size v n xs * F) w)
    (A : Option Addr) (m c : Nat) (news : List Value) (hx : a.eval x = .slice A m c) (hr : RdV w A news) (hm : news.length = m * size) (h1 : ∀ u ∈ news, u.oneCell' = true)
    (h63 : n + m ≤ maxLen) (hbytes : (n + m) * bytes ≤ 140737488355328)
    (h : ∀ A' c' w', Sat w0 (Row e size (.slice A' (n + m) c') (n + m) (xs ++ news) * F) w' → wpList P ops Q rest (a.put o.dst (.slice A' (n + m) c')) w') : wpList P ops Q (o :: rest) a w := by
  refine wpList_plain hgd fun K hK => ?_
  obtain ⟨A', c', w', hrun, h2⟩ := run_appS (P := P) t o.type e i z size bytes ht hi hz hsize hby hzs hsz v n xs hS A m c news hr hm h1 h63 hbytes
  unfold Oper.wp execOp
  simp only [ho, resolve, invoke, builtin, Sem.run_bind, Sem.run_pure, Result.andThen_ok, List.map_toArray, List.map_cons, List.map_nil, hs, hx, hrun]
  exact hK _ _ (h _ _ _ h2)
theorem step_appS {K : Act → World → Prop} {Q : Exit → Act → World → Prop} {E : Prop} (hgd : o.guard = none) (s x : Operand) (t : TypeId)
    (ho : o.op = .call { callee := .builtin .append, args := #[s, x], argTypes := #[t, t] })
    (e : TypeId) (i : TypeInfo) (z : Value) (size bytes : Nat) (ht : P.underlying t = some (.slice e)) (hi : P.info? e = some i) (hz : i.zero = some z)
    (hsize : i.size = size) (hby : i.bytes = bytes) (hzs : z.cells.size = size) (hsz : 0 < size)
    (v : Value) (n : Nat) (xs : List Value) (hs : a.eval s = v) (w0 : World) (F : SP) (hS : Sat w0 (Row e size v n xs * F) w)
    (A : Option Addr) (m c : Nat) (news : List Value) (hx : a.eval x = .slice A m c) (hr : RdV w A news) (hm : news.length = m * size) (h1 : ∀ u ∈ news, u.oneCell' = true)
    (h63 : n + m ≤ maxLen) (hbytes : (n + m) * bytes ≤ 140737488355328)
    (h : ∀ A' c' w', Sat w0 (Row e size (.slice A' (n + m) c') (n + m) (xs ++ news) * F) w' → K (a.put o.dst (.slice A' (n + m) c')) w') :
    if Region.wanted o (yielded ops a.tmps) = true then Oper.wp P o a w K Q else E := by
  have hw : Region.wanted o (yielded ops a.tmps) = true := by simp [Region.wanted, hgd]
  rw [if_pos hw]
  obtain ⟨A', c', w', hrun, h2⟩ := run_appS (P := P) t o.type e i z size bytes ht hi hz hsize hby hzs hsz v n xs hS A m c news hr hm h1 h63 hbytes
  unfold Oper.wp execOp
  simp only [ho, resolve, invoke, builtin, Sem.run_bind, Sem.run_pure, Result.andThen_ok, List.map_toArray, List.map_cons, List.map_nil, hs, hx, hrun]
  exact h _ _ _ h2
/-- What append(x, one) adds lies in a block that has just been laid. -/
theorem lit_rdv (w : World) (cs : Array Value) (t : TypeId) : RdV (w.alloc (.cells cs t)) (some ⟨w.heap.size, 0, none⟩) cs.toList := RdV.lit w cs t (0, 0)
end
end Go.Proofs.Ytaoenbjfkahdjaa
namespace Go.Proofs.Ytaoenbjfkahdjaa
open Go.RowKit
set_option linter.unusedVariables false
set_option maxRecDepth 100000

def byteAt (x w i : Nat) : UInt8 := UInt8.ofNat (x / 256 ^ (w - 1 - i) % 256)
/-- The lowest w bytes of a number, the highest of them first. -/
def putB (x w : Nat) : List UInt8 := (List.range w).map (byteAt x w)
theorem putB_len (x w : Nat) : (putB x w).length = w := by simp [putB]
/-- Bytes in new memory. -/
def NewB (w0 : World) (F : SP) (l : List UInt8) (e : Ending) (w' : World) : Prop := ∃ A c, e = .returned (.slice A l.length c) ∧ l.length ≤ c ∧ c ≤ maxLen ∧ Sat w0 (Row 5 1 (.slice A l.length c) l.length (l.map bv) * F) w'
theorem info_u8o : (Try.prog.info? 5).map (fun i => (i.zero, i.size, i.bytes)) = some (some (.int .u8 0), 1, 1) := by kernel_rfl
theorem run_make_o (n : Nat) (h0 : 1 ≤ n) (hn : n ≤ 8) (W : World) : (Instr.makeSlice 32 (.int .i64 (n : Int)) (.int .i64 (n : Int))).run Try.prog W =
    .ok (.slice (some ⟨W.heap.size, 0, none⟩) n n) (W.alloc (.cells (madeCells #[.int .u8 0] n) 5)) := by
  obtain ⟨i0, hi, hz0, hz1, hz2⟩ := info_parts info_u8o
  have hr := run_make (P := Try.prog) W 32 5 i0 _ Try.underlying32 hi hz0 .i64 .i64 n n (by omega) (by omega) (by rw [hz2]; omega) (by omega)
  have hc : (Value.int .u8 0).cells = #[.int .u8 0] := rfl
  simpa [hz1, hc] using hr
set_option maxHeartbeats 1000000 in
theorem oput_any (x n : Nat) (hx : x < 18446744073709551616) (h0 : 1 ≤ n) (hn : n ≤ 8) (w0 w : World) (F : SP) (h : Sat w0 F w) :
    Calls Try.prog 58 #[.int .u64 (x : Int), .int .i64 (n : Int)] w (NewB w0 F (putB x n)) := by
  have hmk := run_make_o n h0 hn
  have H0 := Lib.hid (h.allocPt 5 (madeCells #[.int .u8 0] n))
  have h1 : ¬ (n : Int) < 1 := by omega
  have h8 : ¬ (8 : Int) < n := by omega
  obtain ⟨g, hg⟩ : ∃ g, g = w.heap.size := ⟨_, rfl⟩
  have HG := Lib.hid hg
  rw [← hg] at H0
  clear h hg
  go_enter Try.func58, Try.ntmps58
  go_wp2_with fail
  rw [← HG.out]
  go_loopw [0, 6] (fun xv iv wr => ∃ k i : Nat, k ≤ n ∧ k + i = n ∧ xv = .int .u64 ((x / 256 ^ k : Nat) : Int) ∧ iv = .int .i64 ((i : Int) - 1) ∧ Hid (∃ cur : Array Value, cur.size = n ∧ (∀ j, i ≤ j → j < n → cur[j]? = some (bv (byteAt x n j))) ∧ Sat w0 (Pt g 5 cur * F) wr)) (fun _ iv _ => (intOf iv + 1).toNat)
  case atStart => exact ⟨0, n, by omega, by omega, by simp, by simp, _, by simp [madeCells], fun j h2 h3 => by omega, H0.out⟩
  case round =>
    obtain ⟨k, i, hk, hki, rfl, rfl, HD⟩ := hrel
    rcases i with _ | i
    · go_wp2_with fail
      go_ret
      obtain ⟨cur, hc1, hc2, hs⟩ := HD.out
      have h9 := Sat.row_pt (n := n) (cap := n) (size := 1) hs (Nat.le_refl _) (by unfold maxLen; omega) (by omega)
      refine ⟨some ⟨g, 0, none⟩, n, by rw [putB_len]; rfl, by rw [putB_len]; exact Nat.le_refl _, by unfold maxLen; omega, h9.of ?_⟩
      rw [putB_len]
      congr 2
      apply List.ext_getElem?
      intro j
      rw [Nat.mul_one, List.getElem?_take]
      by_cases hj : j < n
      · rw [if_pos hj, Array.getElem?_toList, hc2 j (by omega) hj]
        simp [putB, hj]
      · rw [if_neg hj]
        simp [putB, hj]
    · obtain ⟨cur, hc1, hc2, hs⟩ := HD.out
      obtain ⟨Y, hY⟩ : ∃ Y, Y = x / 256 ^ k := ⟨_, rfl⟩
      have hYb : Y < 18446744073709551616 := by rw [hY]; exact Nat.lt_of_le_of_lt (Nat.div_le_self _ _) hx
      have hi : i < n := by omega
      obtain ⟨v0, c0⟩ : ∃ v0, wr.cell? ⟨g, i, none⟩ = some v0 := ⟨cur[i], by rw [hs.cell, Array.getElem?_eq_getElem (by omega)]⟩
      have f0 := hs.frozen i
      have HB : Hid (bv (byteAt x n i) = .int .u8 ((Y : Int) % 256)) := by
        unfold bv byteAt
        rw [show n - 1 - i = k by omega, ← hY, UInt8.toNat_ofNat', Nat.mod_mod]
        rw [show ((Y % 256 : Nat) : Int) = (Y : Int) % 256 by omega]
        rfl
      have HQ : Hid (((Y / 256 : Nat) : Int) = ((x / 256 ^ (k + 1) : Nat) : Int)) := by
        unfold Hid
        rw [hY, Nat.div_div_eq_div_mul, Nat.pow_succ]
      have HN : Hid (∃ cur' : Array Value, cur'.size = n ∧ (∀ j, i ≤ j → j < n → cur'[j]? = some (bv (byteAt x n j))) ∧ Sat w0 (Pt g 5 cur' * F) (wr.setCell ⟨g, i, none⟩ (.int .u8 ((Y : Int) % 256)))) := by
        refine ⟨cur.setIfInBounds i (.int .u8 ((Y : Int) % 256)), by simp [hc1], fun j h2 h3 => ?_, hs.set i _⟩
        by_cases e : i = j
        · subst e
          rw [Array.getElem?_setIfInBounds_self_of_lt (by omega), HB.out]
        · rw [Array.getElem?_setIfInBounds_ne e]
          exact hc2 j (by omega) h3
      have e2 : ((i + 1 : Nat) : Int) - 1 = (i : Int) := by omega
      rw [← hY, e2]
      have e3 : (i : Int) < n := by omega
      clear hY hc1 hc2 hs HD e2
      go_wp2_with fail
      go_roundw
      · exact ⟨k + 1, i, by omega, by omega, by rw [← HQ.out, show ((Y / 256 : Nat) : Int) = (Y : Int) / 256 by omega], rfl, HN.out⟩
      · simp [intOf] <;> omega
set_option maxHeartbeats 1000000 in
theorem rput1_any (x n : Nat) (hx : x < 18446744073709551616) (h0 : 1 ≤ n) (hn : n ≤ 8) (w0 w : World) (F : SP) (h : Sat w0 F w) :
    Calls Try.prog 99 #[.int .u64 (x : Int), .int .i64 (n : Int)] w (NewB w0 F (putB x n)) := by
  have hmk := run_make_o n h0 hn
  have H0 := Lib.hid (h.allocPt 5 (madeCells #[.int .u8 0] n))
  have h1 : ¬ (n : Int) < 1 := by omega
  have h8 : ¬ (8 : Int) < n := by omega
  obtain ⟨g, hg⟩ : ∃ g, g = w.heap.size := ⟨_, rfl⟩
  have HG := Lib.hid hg
  rw [← hg] at H0
  clear h hg
  go_enter Try.func99, Try.ntmps99
  go_wp2_with fail
  rw [← HG.out]
  go_loopw [0, 6] (fun xv iv wr => ∃ k i : Nat, k ≤ n ∧ k + i = n ∧ xv = .int .u64 ((x / 256 ^ k : Nat) : Int) ∧ iv = .int .i64 ((i : Int) - 1) ∧ Hid (∃ cur : Array Value, cur.size = n ∧ (∀ j, i ≤ j → j < n → cur[j]? = some (bv (byteAt x n j))) ∧ Sat w0 (Pt g 5 cur * F) wr)) (fun _ iv _ => (intOf iv + 1).toNat)
  case atStart => exact ⟨0, n, by omega, by omega, by simp, by simp, _, by simp [madeCells], fun j h2 h3 => by omega, H0.out⟩
  case round =>
    obtain ⟨k, i, hk, hki, rfl, rfl, HD⟩ := hrel
    rcases i with _ | i
    · go_wp2_with fail
      go_ret
      obtain ⟨cur, hc1, hc2, hs⟩ := HD.out
      have h9 := Sat.row_pt (n := n) (cap := n) (size := 1) hs (Nat.le_refl _) (by unfold maxLen; omega) (by omega)
      refine ⟨some ⟨g, 0, none⟩, n, by rw [putB_len]; rfl, by rw [putB_len]; exact Nat.le_refl _, by unfold maxLen; omega, h9.of ?_⟩
      rw [putB_len]
      congr 2
      apply List.ext_getElem?
      intro j
      rw [Nat.mul_one, List.getElem?_take]
      by_cases hj : j < n
      · rw [if_pos hj, Array.getElem?_toList, hc2 j (by omega) hj]
        simp [putB, hj]
      · rw [if_neg hj]
        simp [putB, hj]
    · obtain ⟨cur, hc1, hc2, hs⟩ := HD.out
      obtain ⟨Y, hY⟩ : ∃ Y, Y = x / 256 ^ k := ⟨_, rfl⟩
      have hYb : Y < 18446744073709551616 := by rw [hY]; exact Nat.lt_of_le_of_lt (Nat.div_le_self _ _) hx
      have hi : i < n := by omega
      obtain ⟨v0, c0⟩ : ∃ v0, wr.cell? ⟨g, i, none⟩ = some v0 := ⟨cur[i], by rw [hs.cell, Array.getElem?_eq_getElem (by omega)]⟩
      have f0 := hs.frozen i
      have HB : Hid (bv (byteAt x n i) = .int .u8 ((Y : Int) % 256)) := by
        unfold bv byteAt
        rw [show n - 1 - i = k by omega, ← hY, UInt8.toNat_ofNat', Nat.mod_mod]
        rw [show ((Y % 256 : Nat) : Int) = (Y : Int) % 256 by omega]
        rfl
      have HQ : Hid (((Y / 256 : Nat) : Int) = ((x / 256 ^ (k + 1) : Nat) : Int)) := by
        unfold Hid
        rw [hY, Nat.div_div_eq_div_mul, Nat.pow_succ]
      have HN : Hid (∃ cur' : Array Value, cur'.size = n ∧ (∀ j, i ≤ j → j < n → cur'[j]? = some (bv (byteAt x n j))) ∧ Sat w0 (Pt g 5 cur' * F) (wr.setCell ⟨g, i, none⟩ (.int .u8 ((Y : Int) % 256)))) := by
        refine ⟨cur.setIfInBounds i (.int .u8 ((Y : Int) % 256)), by simp [hc1], fun j h2 h3 => ?_, hs.set i _⟩
        by_cases e : i = j
        · subst e
          rw [Array.getElem?_setIfInBounds_self_of_lt (by omega), HB.out]
        · rw [Array.getElem?_setIfInBounds_ne e]
          exact hc2 j (by omega) h3
      have e2 : ((i + 1 : Nat) : Int) - 1 = (i : Int) := by omega
      rw [← hY, e2]
      have e3 : (i : Int) < n := by omega
      clear hY hc1 hc2 hs HD e2
      go_wp2_with fail
      go_roundw
      · exact ⟨k + 1, i, by omega, by omega, by rw [← HQ.out, show ((Y / 256 : Nat) : Int) = (Y : Int) / 256 by omega], rfl, HN.out⟩
      · simp [intOf] <;> omega
end Go.Proofs.Ytaoenbjfkahdjaa
namespace Go.Proofs.Ytaoenbjfkahdjaa
open Go.RowKit
set_option linter.unusedVariables false
set_option maxRecDepth 100000

def crcS (x : Nat) : Nat := if x % 2 = 1 then (x / 2) ^^^ 3988292384 else x / 2
def crcN : Nat → Nat → Nat
  | 0, x => x
  | k + 1, x => crcS (crcN k x)
def crcB (c : Nat) (b : UInt8) : Nat := crcN 8 (c ^^^ b.toNat)
def crcL (l : List UInt8) : Nat := l.foldl crcB 4294967295
/-- The sum of bytes. -/
def sumB (l : List UInt8) : Nat := crcL l ^^^ 4294967295
theorem xor_lt32 {a b : Nat} (ha : a < 4294967296) (hb : b < 4294967296) : a ^^^ b < 4294967296 := Nat.xor_lt_two_pow (n := 32) ha hb
theorem crcS_lt {x : Nat} (h : x < 4294967296) : crcS x < 4294967296 := by
  unfold crcS
  split
  · exact xor_lt32 (by omega) (by decide)
  · omega
theorem crcN_lt {x : Nat} (h : x < 4294967296) : ∀ k, crcN k x < 4294967296
  | 0 => h
  | k + 1 => crcS_lt (crcN_lt h k)
theorem u8_lt32 (b : UInt8) : b.toNat < 4294967296 := by have := b.toNat_lt; omega
theorem crcB_lt {c : Nat} (b : UInt8) (h : c < 4294967296) : crcB c b < 4294967296 := crcN_lt (xor_lt32 h (u8_lt32 b)) 8
theorem crcF_lt : ∀ (l : List UInt8) {c : Nat}, c < 4294967296 → l.foldl crcB c < 4294967296
  | [], _, h => h
  | b :: l, _, h => crcF_lt l (crcB_lt b h)
theorem crcL_lt (l : List UInt8) : crcL l < 4294967296 := crcF_lt l (by decide)
theorem sumB_lt (l : List UInt8) : sumB l < 4294967296 := xor_lt32 (crcL_lt l) (by decide)
theorem crcL_snoc (l : List UInt8) (b : UInt8) : crcL (l ++ [b]) = crcN 8 (crcL l ^^^ b.toNat) := by
  unfold crcL
  rw [List.foldl_append]
  rfl
theorem crcL_take {l : List UInt8} {i : Nat} (h : i < l.length) : crcL (l.take (i + 1)) = crcN 8 (crcL (l.take i) ^^^ l[i].toNat) := by
  rw [List.take_succ_eq_append_getElem h, crcL_snoc]
theorem xor32 (a b : Nat) (ha : a < 4294967296) (hb : b < 4294967296) : bits .xor .u32 (a : Int) (b : Int) = ((a ^^^ b : Nat) : Int) := u32_xor_nat a b ha hb
/-- The document's Sum. -/
theorem rsum1_any (A : Option Addr) (c : Nat) (l : List UInt8) (w : World) (h : Rd w A l) (hl : l.length ≤ 140737488355328) :
    Calls Try.prog 77 #[.slice A l.length c] w fun e w' => e = .returned (.int .u32 (sumB l : Nat)) ∧ w' = w := by
  have HR := Lib.hid h
  clear h
  go_enter Try.func77, Try.ntmps77
  go_wp2
  go_loopw [3, 4] (fun cv iv wr => ∃ i : Nat, i ≤ l.length ∧ cv = .int .u32 (crcL (l.take i) : Nat) ∧ iv = .int .i64 i ∧ Hid (wr = w)) (fun _ iv _ => l.length - (intOf iv).toNat)
  case atStart => exact ⟨0, by omega, rfl, rfl, rfl⟩
  case round =>
    obtain ⟨i, hi, rfl, rfl, HW⟩ := hrel
    obtain rfl := HW.out
    by_cases hlt : i < l.length
    · obtain ⟨b, o, rfl, hc⟩ := HR.out.get hlt
      obtain ⟨x0, hx0⟩ : ∃ x0, x0 = crcL (l.take i) := ⟨_, rfl⟩
      have hb0 : x0 < 4294967296 := by rw [hx0]; exact crcL_lt _
      have hxx := xor32 x0 l[i].toNat hb0 (u8_lt32 _)
      have HX := Lib.hid (crcL_take hlt)
      have hb1 := l[i].toNat_lt
      rw [← hx0]
      have HX0 := Lib.hid hx0
      obtain ⟨y, hy⟩ : ∃ y, y = x0 ^^^ l[i].toNat := ⟨_, rfl⟩
      have hyb : y < 4294967296 := by rw [hy]; exact xor_lt32 hb0 (u8_lt32 _)
      rw [← hx0, ← hy] at HX
      rw [← hy] at hxx
      have HY := Lib.hid hy
      clear hx0 hy
      go_wp2_with fail
      go_loopw [3, 5] (fun cv kv wq => ∃ k : Nat, k ≤ 8 ∧ cv = .int .u32 (crcN k y : Nat) ∧ kv = .int .i64 k ∧ Hid (wq = wr)) (fun _ kv _ => 8 - (intOf kv).toNat)
      case atStart => exact ⟨0, by omega, rfl, rfl, rfl⟩
      case round =>
        obtain ⟨k, hk, rfl, rfl, HW2⟩ := hrel
        obtain rfl := HW2.out
        by_cases hk8 : k < 8
        · obtain ⟨z, hz⟩ : ∃ z, z = crcN k y := ⟨_, rfl⟩
          have hzb : z < 4294967296 := by rw [hz]; exact crcN_lt hyb k
          have HZ : Hid (crcN (k + 1) y = crcS z) := by rw [hz]; rfl
          rw [← hz]
          clear hz
          by_cases hm : z % 2 = 1
          · have HS1 : Hid (crcS z = z / 2 ^^^ 3988292384) := if_pos hm
            have hm1 : (z : Int) % 2 = 1 := by omega
            have hxp : bits .xor .u32 ((z : Int) / 2) 3988292384 = ((z / 2 ^^^ 3988292384 : Nat) : Int) := by
              have := xor32 (z / 2) 3988292384 (by omega) (by decide)
              simpa using this
            clear hm
            go_wp2_with fail
            go_roundw
            · exact ⟨k + 1, by omega, by rw [HZ.out, HS1.out], by push_cast; rfl, by first | trivial | exact rfl⟩
            · simp [intOf]; omega
          · have HS1 : Hid (crcS z = z / 2) := if_neg hm
            have hm1 : (z : Int) % 2 = 0 := by omega
            clear hm
            go_wp2_with fail
            go_roundw
            · exact ⟨k + 1, by omega, by rw [HZ.out, HS1.out, show ((z / 2 : Nat) : Int) = (z : Int) / 2 by omega], by push_cast; rfl, by first | trivial | exact rfl⟩
            · simp [intOf]; omega
        · have hk9 : k = 8 := by omega
          subst hk9
          go_wp2_with fail
          go_roundw
          · exact ⟨i + 1, by omega, by rw [HX.out], by push_cast; rfl, by first | trivial | exact rfl⟩
          · simp [intOf]; omega
    · have hall : l.take i = l := List.take_of_length_le (by omega)
      have hxl : bits .xor .u32 ((crcL l : Nat) : Int) 4294967295 = ((sumB l : Nat) : Int) := xor32 (crcL l) 4294967295 (crcL_lt l) (by decide)
      rw [hall]
      clear hall
      go_wp2_with fail
      go_ret
      exact ⟨rfl, rfl⟩
theorem txt_step {ks : Rows_} {i : Nat} (h : i < ks.length) : (txt (ks.take (i + 1))).flatten = (txt (ks.take i)).flatten ++ ks[i].2.2 := by
  rw [List.take_succ_eq_append_getElem h, txt_append, List.flatten_append]
  simp [txt]
theorem crcL_app (p l : List UInt8) {j : Nat} (h : j < l.length) : crcL (p ++ l.take (j + 1)) = crcN 8 (crcL (p ++ l.take j) ^^^ l[j].toNat) := by
  rw [List.take_succ_eq_append_getElem h, ← List.append_assoc, crcL_snoc]
theorem and32 (a b : Nat) (ha : a < 4294967296) (hb : b < 4294967296) : bits .and .u32 (a : Int) (b : Int) = ((a &&& b : Nat) : Int) := u32_and_nat a b ha hb
set_option maxHeartbeats 1000000 in
/-- Sum. -/
theorem osum_any (A : Option Addr) (c : Nat) (ks : Rows_) (w : World) (h : RdL w A ks) (hks : ks.length ≤ 1000000) (hl : ∀ k ∈ ks, k.2.2.length ≤ 140737488355328) :
    Calls Try.prog 59 #[.slice A ks.length c] w fun e w' => e = .returned (.int .u32 (sumB (txt ks).flatten : Nat)) ∧ w' = w := by
  have HR := Lib.hid h
  have HLn := Lib.hid hl
  clear h hl
  go_enter Try.func59, Try.ntmps59
  go_wp2
  go_loopw [3, 10] (fun cv iv wr => ∃ i : Nat, i ≤ ks.length ∧ cv = .int .u32 (crcL (txt (ks.take i)).flatten : Nat) ∧ iv = .int .i64 i ∧ Hid (wr = w)) (fun _ iv _ => ks.length - (intOf iv).toNat)
  case atStart => exact ⟨0, by omega, rfl, rfl, rfl⟩
  case round =>
    obtain ⟨i, hi, rfl, rfl, HW⟩ := hrel
    obtain rfl := HW.out
    by_cases hlt : i < ks.length
    · obtain ⟨⟨b, o, rfl, hc⟩, hx⟩ := HR.out.get hlt
      have HXr := Lib.hid hx
      have hll := HLn.out _ (List.getElem_mem hlt)
      have HTx := Lib.hid (txt_step hlt)
      obtain ⟨l, hl⟩ : ∃ l, l = ks[i].2.2 := ⟨_, rfl⟩
      obtain ⟨p, hp⟩ : ∃ p, p = (txt (ks.take i)).flatten := ⟨_, rfl⟩
      rw [← hl] at hll HXr hc
      rw [← hl, ← hp] at HTx
      rw [← hp]
      clear hx hl hp
      go_wp2_with fail
      go_loopw [3, 16] (fun cv jv wq => ∃ j : Nat, j ≤ l.length ∧ cv = .int .u32 (crcL (p ++ l.take j) : Nat) ∧ jv = .int .i64 j ∧ Hid (wq = wr)) (fun _ jv _ => l.length - (intOf jv).toNat)
      case atStart => exact ⟨0, by omega, by simp, rfl, rfl⟩
      case round =>
        obtain ⟨j, hj, rfl, rfl, HW2⟩ := hrel
        obtain rfl := HW2.out
        by_cases hjl : j < l.length
        · obtain ⟨b2, o2, hA, hc2⟩ := HXr.out.get hjl
          have HX := Lib.hid (crcL_app p l hjl)
          obtain ⟨x0, hx0⟩ : ∃ x0, x0 = crcL (p ++ l.take j) := ⟨_, rfl⟩
          have hb0 : x0 < 4294967296 := by rw [hx0]; exact crcL_lt _
          have hxx := xor32 x0 l[j].toNat hb0 (u8_lt32 _)
          have hb1 := l[j].toNat_lt
          rw [← hx0]
          obtain ⟨y, hy⟩ : ∃ y, y = x0 ^^^ l[j].toNat := ⟨_, rfl⟩
          have hyb : y < 4294967296 := by rw [hy]; exact xor_lt32 hb0 (u8_lt32 _)
          rw [← hx0, ← hy] at HX
          rw [← hy] at hxx
          rw [hA]
          clear hx0 hy
          go_wp2_with fail
          go_loopw [3, 24] (fun cv kv wq => ∃ k : Nat, k ≤ 8 ∧ cv = .int .u32 (crcN k y : Nat) ∧ kv = .int .i64 k ∧ Hid (wq = wr)) (fun _ kv _ => 8 - (intOf kv).toNat)
          case atStart => exact ⟨0, by omega, rfl, rfl, rfl⟩
          case round =>
            obtain ⟨k, hk, rfl, rfl, HW3⟩ := hrel
            obtain rfl := HW3.out
            by_cases hk8 : k < 8
            · obtain ⟨z, hz⟩ : ∃ z, z = crcN k y := ⟨_, rfl⟩
              have hzb : z < 4294967296 := by rw [hz]; exact crcN_lt hyb k
              have HZ : Hid (crcN (k + 1) y = crcS z) := by rw [hz]; rfl
              rw [← hz]
              clear hz
              by_cases hm : z % 2 = 1
              · have HS1 : Hid (crcS z = z / 2 ^^^ 3988292384) := if_pos hm
                have hxp : bits .xor .u32 ((z : Int) / 2) 3988292384 = ((z / 2 ^^^ 3988292384 : Nat) : Int) := by
                  have := xor32 (z / 2) 3988292384 (by omega) (by decide)
                  simpa using this
                have ha1 : bits .and .u32 (z : Int) 1 = 1 := by
                  have := and32 z 1 hzb (by decide)
                  rw [Nat.and_one_is_mod, hm] at this
                  simpa using this
                have ha2 : bits .and .u32 3988292384 4294967295 = 3988292384 := by decide
                clear hm
                go_wp2_with fail
                go_roundw
                · exact ⟨k + 1, by omega, by rw [HZ.out, HS1.out], by push_cast; rfl, by first | trivial | exact rfl⟩
                · simp [intOf]; omega
              · have HS1 : Hid (crcS z = z / 2) := if_neg hm
                have ha1 : bits .and .u32 (z : Int) 1 = 0 := by
                  have := and32 z 1 hzb (by decide)
                  rw [Nat.and_one_is_mod, show z % 2 = 0 by omega] at this
                  simpa using this
                have ha2 : bits .and .u32 3988292384 0 = 0 := by decide
                have ha3 : bits .xor .u32 ((z : Int) / 2) 0 = ((z / 2 : Nat) : Int) := by
                  have := xor32 (z / 2) 0 (by omega) (by decide)
                  simpa using this
                clear hm
                go_wp2_with fail
                go_roundw
                · exact ⟨k + 1, by omega, by rw [HZ.out, HS1.out, show ((z / 2 : Nat) : Int) = (z : Int) / 2 by omega], by push_cast; rfl, by first | trivial | exact rfl⟩
                · simp [intOf]; omega
            · have hk9 : k = 8 := by omega
              subst hk9
              go_wp2_with fail
              go_roundw
              · exact ⟨j + 1, by omega, by rw [HX.out], by push_cast; rfl, by first | trivial | exact rfl⟩
              · simp [intOf]; omega
        · have hall : l.take j = l := List.take_of_length_le (by omega)
          rw [hall]
          clear hall
          go_wp2_with fail
          go_roundw
          · exact ⟨i + 1, by omega, by rw [HTx.out], by push_cast; rfl, by first | trivial | exact rfl⟩
          · simp [intOf]; omega
    · have hall : ks.take i = ks := List.take_of_length_le (by omega)
      have hxl : bits .xor .u32 IntKind.u32.max ((crcL (txt ks).flatten : Nat) : Int) = ((sumB (txt ks).flatten : Nat) : Int) := by
        have h1 := xor32 4294967295 (crcL (txt ks).flatten) (by decide) (crcL_lt _)
        rw [Nat.xor_comm] at h1
        exact h1
      rw [hall]
      clear hall
      go_wp2_with fail
      go_ret
      exact ⟨rfl, rfl⟩
end Go.Proofs.Ytaoenbjfkahdjaa
namespace Go.Proofs.Ytaoenbjfkahdjaa
open Go.RowKit
set_option linter.unusedVariables false
set_option maxRecDepth 100000

/-- The number that bytes say. -/
def getN (l : List UInt8) : Nat := l.foldl (fun x b => x * 256 + b.toNat) 0
theorem getN_snoc (l : List UInt8) (b : UInt8) : getN (l ++ [b]) = getN l * 256 + b.toNat := by
  unfold getN
  rw [List.foldl_append]
  rfl
theorem getN_take {l : List UInt8} {i : Nat} (h : i < l.length) : getN (l.take (i + 1)) = getN (l.take i) * 256 + l[i].toNat := by
  rw [List.take_succ_eq_append_getElem h, getN_snoc]
theorem getF_lt : ∀ (l : List UInt8) (c : Nat), l.foldl (fun x b => x * 256 + b.toNat) c < (c + 1) * 256 ^ l.length
  | [], c => by simp
  | b :: l, c => by
    have h1 := getF_lt l (c * 256 + b.toNat)
    have h2 := b.toNat_lt
    rw [List.foldl_cons, List.length_cons, Nat.pow_succ]
    refine Nat.lt_of_lt_of_le h1 ?_
    rw [Nat.mul_comm (256 ^ l.length) 256, ← Nat.mul_assoc]
    exact Nat.mul_le_mul_right _ (by omega)
theorem getN_lt (l : List UInt8) : getN l < 256 ^ l.length := by simpa [getN] using getF_lt l 0
theorem getN_lt64 (l : List UInt8) (h : l.length ≤ 8) : getN l < 18446744073709551616 :=
  Nat.lt_of_lt_of_le (getN_lt l) (Nat.le_trans (Nat.pow_le_pow_right (by decide) h) (by decide))
theorem getN_lt56 (l : List UInt8) (h : l.length ≤ 7) : getN l < 72057594037927936 :=
  Nat.lt_of_lt_of_le (getN_lt l) (Nat.le_trans (Nat.pow_le_pow_right (by decide) h) (by decide))
theorem or64 (x b : Nat) (hx : x < 72057594037927936) (hb : b < 256) : bits .or .u64 ((x : Int) * 256) (b : Int) = ((x * 256 + b : Nat) : Int) := by
  have h1 := u64_or_nat (x * 256) b (by omega) (by omega)
  have h2 : x * 256 ||| b = x * 256 + b := by
    have := Nat.shiftLeft_add_eq_or_of_lt (b := b) (i := 8) (by simpa using hb) x
    rw [Nat.shiftLeft_eq] at this
    exact this.symm
  rw [h2] at h1
  rw [← h1]
  push_cast
  rfl
theorem oget_any (A : Option Addr) (c : Nat) (l : List UInt8) (w : World) (h : Rd w A l) (hl : l.length ≤ 8) :
    Calls Try.prog 94 #[.slice A l.length c] w fun e w' => e = .returned (.int .u64 (getN l : Nat)) ∧ w' = w := by
  have HR := Lib.hid h
  clear h
  go_enter Try.func94, Try.ntmps94
  go_wp2
  go_loopw [3, 8] (fun cv iv wr => ∃ i : Nat, i ≤ l.length ∧ cv = .int .u64 (getN (l.take i) : Nat) ∧ iv = .int .i64 i ∧ Hid (wr = w)) (fun _ iv _ => l.length - (intOf iv).toNat)
  case atStart => exact ⟨0, by omega, rfl, rfl, rfl⟩
  case round =>
    obtain ⟨i, hi, rfl, rfl, HW⟩ := hrel
    obtain rfl := HW.out
    by_cases hlt : i < l.length
    · obtain ⟨b, o, rfl, hc⟩ := HR.out.get hlt
      have HX := Lib.hid (getN_take hlt)
      have hb := getN_lt56 (l.take i) (by rw [List.length_take]; omega)
      have hb1 := l[i].toNat_lt
      have ho := or64 (getN (l.take i)) l[i].toNat hb hb1
      have hw : IntKind.u64.wrap ((getN (l.take i) : Int) * 256) = (getN (l.take i) : Int) * 256 := by rw [IntKind.wrap_u64]; omega
      generalize getN (l.take i) = x0 at *
      go_wp2_with fail
      go_roundw
      · exact ⟨i + 1, by omega, by rw [HX.out]; push_cast; rfl, by push_cast; rfl, by first | trivial | exact rfl⟩
      · simp [intOf]; omega
    · have hall : l.take i = l := List.take_of_length_le (by omega)
      rw [hall]
      clear hall
      go_wp2_with fail
      go_ret
      exact ⟨rfl, rfl⟩
theorem rget1_any (A : Option Addr) (c : Nat) (l : List UInt8) (w : World) (h : Rd w A l) (hl : l.length ≤ 8) :
    Calls Try.prog 85 #[.slice A l.length c] w fun e w' => e = .returned (.int .u64 (getN l : Nat)) ∧ w' = w := by
  have HR := Lib.hid h
  clear h
  go_enter Try.func85, Try.ntmps85
  go_wp2
  go_loopw [3, 4] (fun cv iv wr => ∃ i : Nat, i ≤ l.length ∧ cv = .int .u64 (getN (l.take i) : Nat) ∧ iv = .int .i64 i ∧ Hid (wr = w)) (fun _ iv _ => l.length - (intOf iv).toNat)
  case atStart => exact ⟨0, by omega, rfl, rfl, rfl⟩
  case round =>
    obtain ⟨i, hi, rfl, rfl, HW⟩ := hrel
    obtain rfl := HW.out
    by_cases hlt : i < l.length
    · obtain ⟨b, o, rfl, hc⟩ := HR.out.get hlt
      have HX := Lib.hid (getN_take hlt)
      have hb := getN_lt56 (l.take i) (by rw [List.length_take]; omega)
      have hb1 := l[i].toNat_lt
      generalize getN (l.take i) = x0 at *
      go_wp2_with fail
      go_roundw
      · exact ⟨i + 1, by omega, by rw [HX.out]; push_cast; rfl, by push_cast; rfl, by first | trivial | exact rfl⟩
      · simp [intOf]; omega
    · have hall : l.take i = l := List.take_of_length_le (by omega)
      rw [hall]
      clear hall
      go_wp2_with fail
      go_ret
      exact ⟨rfl, rfl⟩
/-- What Put lays Get reads. -/
theorem getN_app (a b : List UInt8) : getN (a ++ b) = getN a * 256 ^ b.length + getN b := by
  unfold getN
  rw [List.foldl_append]
  generalize a.foldl (fun x b => x * 256 + b.toNat) 0 = c
  induction b generalizing c with
  | nil => simp
  | cons y b ih =>
    rw [List.foldl_cons, List.foldl_cons, ih, ih (0 * 256 + y.toNat), List.length_cons, Nat.pow_succ, Nat.add_mul, Nat.mul_assoc, Nat.mul_comm 256 (256 ^ b.length), Nat.zero_mul, Nat.zero_add, Nat.add_assoc]
theorem putB_succ (x n : Nat) : putB x (n + 1) = putB (x / 256) n ++ [UInt8.ofNat (x % 256)] := by
  unfold putB
  rw [List.range_succ, List.map_append]
  congr 1
  · refine List.map_congr_left fun i hi => ?_
    have hi := List.mem_range.1 hi
    unfold byteAt
    rw [Nat.div_div_eq_div_mul, show n + 1 - 1 - i = (n - 1 - i) + 1 by omega, Nat.pow_succ, Nat.mul_comm 256]
  · simp [byteAt]
theorem get_put : ∀ (n x : Nat), getN (putB x n) = x % 256 ^ n
  | 0, x => by simp [putB, getN, Nat.mod_one]
  | n + 1, x => by
    rw [putB_succ, getN_snoc, get_put n (x / 256), Nat.pow_succ, UInt8.toNat_ofNat', Nat.mod_mod, Nat.mul_comm (256 ^ n) 256, Nat.mod_mul]
    omega
end Go.Proofs.Ytaoenbjfkahdjaa
namespace Go.Proofs.Ytaoenbjfkahdjaa
open Go.RowKit
set_option linter.unusedVariables false
set_option maxRecDepth 100000

/-- What slices.Clone gives: a row of its own; nil of nil alone. -/
def Cloned (l : List UInt8) (A : Option Addr) (w : World) (e : Ending) (w' : World) : Prop :=
  ∃ v, e = .returned v ∧ w'.ownsRow w.heap.size 5 1 v l.length (l.map bv) ∧ (v = .slice none 0 0 ↔ A = none) ∧ Chg No w w'

theorem clone_any (A : Option Addr) (c : Nat) (l : List UInt8) (w : World) (h : Rd w A l) (hl : l.length ≤ 140737488355328) :
    Calls Try.prog 87 #[.slice A l.length c] w (Cloned l A w) := by
  have hmax : l.length ≤ maxLen := by unfold maxLen; omega
  rcases A with _ | ad
  · have hl0 : l = [] := by
      rcases l with _ | ⟨x, l⟩
      · rfl
      · obtain ⟨b, o, e, _⟩ := h (by simp); cases e
    subst hl0
    have hnil := fun (W : World) (A : Option Addr) (n c : Nat) => Lib.run_eql_slice_nil (P := Try.prog) W 32 5 A n c 0 0 Try.underlying32
    go_enter Try.func87, Try.ntmps87
    go_wp2
    go_ret
    exact ⟨_, rfl, World.ownsRow_nil _ _ _ _, by simp, Chg.refl _ _⟩
  · obtain ⟨i0, hi, hz0, hz1, hz2⟩ := info_parts info_u8
    have hnil := fun (W : World) (A : Option Addr) (n c : Nat) => Lib.run_eql_slice_nil (P := Try.prog) W 32 5 A n c 0 0 Try.underlying32
    go_enter Try.func87, Try.ntmps87
    have HL := Lib.hid h
    clear h
    go_wp2_with (at_builtin; refine wpList_app rfl (.tmp 5) (.tmp 6) 32 rfl w.heap.size 5 i0 _ 1 1 Try.underlying32 hi hz0 hz1 hz2 rfl (by decide) (.slice (some ⟨w.heap.size, 0, none⟩) 0 0) 0 [] rfl (own_lit w 5 #[] (Nat.zero_le _)) (some ad) l.length c (l.map bv) rfl ((HL.out).alloc _) (by simp) (bv_one l) (by omega) (by omega) (by simp) ?_; intro v1 w1 hap)
    go_ret
    have hown := hap.own
    have hn := hap.nil
    refine ⟨v1, rfl, by simpa using hown, by simpa using hn, hap.old ((Chg.refl No w).alloc _) (own_lit w 5 #[] (Nat.zero_le _)) (Nat.le_refl _)⟩

end Go.Proofs.Ytaoenbjfkahdjaa
namespace Go.Proofs.Ytaoenbjfkahdjaa
open Go.RowKit
set_option linter.unusedVariables false
set_option maxRecDepth 100000

/-- An entry where it lies. -/
structure En where
  key : Slc
  value : Slc
  seq : Int
  dead : Bool
/-- What an entry says. -/
structure Ent where
  key : List UInt8
  value : List UInt8
  seq : Int
  dead : Bool
def En.ent (e : En) : Ent := ⟨e.key.2.2, e.value.2.2, e.seq, e.dead⟩
def slv' (s : Slc) : Value := .slice s.1 s.2.2.length s.2.1
def enV (e : En) : List Value := [slv' e.key, slv' e.value, .int .i64 e.seq, .bool e.dead]
def enA (e : En) : Value := .agg #[.slice e.key.1 e.key.2.2.length e.key.2.1, .slice e.value.1 e.value.2.2.length e.value.2.1, .int .i64 e.seq, .bool e.dead]
/-- What may be read of an entry. -/
def EnR (w : World) (e : En) : Prop := Rd w e.key.1 e.key.2.2 ∧ Rd w e.value.1 e.value.2.2
theorem EnR.new {w w' : World} {e : En} (h : EnR w e) (k : Chg No w w') : EnR w' e := ⟨h.1.new k, h.2.new k⟩
def ordE (a b : Ent) : Int := if Lib.compareBytes a.key b.key = 0 then (if b.seq < a.seq then -1 else if a.seq < b.seq then 1 else 0) else Lib.compareBytes a.key b.key
def lessE (a b : Ent) : Bool := decide (ordE a b < 0)
section
variable {P : Program} {w : World} {A B : Option Addr} {l m : List UInt8}
theorem run_load8 : ∀ (l : List UInt8) (b o : Nat) (acc : ByteArray), (∀ j (hj : j < l.length), w.cell? ⟨b, o + j, none⟩ = some (.int .u8 (l[j].toNat : Int))) →
    (Extern.Bytes.loadBytes ⟨b, o, none⟩ l.length acc).run P w = .ok ⟨acc.data ++ l.toArray⟩ w
  | [], b, o, acc, _ => by simp [Extern.Bytes.loadBytes]
  | x :: l, b, o, acc, h => by
    have h0 : w.cell? ⟨b, o, none⟩ = some (.int .u8 (x.toNat : Int)) := h 0 (by simp)
    have ih := run_load8 l b (o + 1) (acc.push x) (fun j hj => by
      have := h (j + 1) (by simpa using hj)
      rw [show o + 1 + j = o + (j + 1) by omega]
      exact this)
    simp only [List.length_cons, Extern.Bytes.loadBytes, Sem.run_bind, run_load, h0, Result.andThen]
    have e : ((x.toNat : Int).toNat.toUInt8) = x := by simp
    rw [e]
    show (Extern.Bytes.loadBytes (Addr.add ⟨b, o, none⟩ 1) l.length (acc.push x)).run P w = _
    rw [show (Addr.add ⟨b, o, none⟩ 1) = ⟨b, o + 1, none⟩ from rfl, ih]
    congr 1
    apply ByteArray.ext
    simp [ByteArray.push]
theorem run_bytesOf (h : Rd w A l) (c : Nat) : (Extern.Bytes.bytesOf (.slice A l.length c)).run P w = .ok ⟨l.toArray⟩ w := by
  rcases A with _ | a
  · have hl : l = [] := by
      rcases l with _ | ⟨x, l⟩
      · rfl
      · obtain ⟨b, o, e, _⟩ := h (by simp); cases e
    subst hl
    rfl
  · by_cases hl : l = []
    · subst hl; rfl
    · obtain ⟨b, o, e, _⟩ := h.get (j := 0) (List.length_pos_iff.2 hl)
      injection e with e
      subst e
      have := run_load8 (P := P) (w := w) l b o .empty (fun j hj => by
        obtain ⟨b', o', e, hc⟩ := h.get hj
        injection e with e
        injection e with e1 e2
        subst e1; subst e2
        exact hc)
      show (Extern.Bytes.loadBytes ⟨b, o, none⟩ l.length .empty).run P w = _
      rw [this]
      congr 1
      apply ByteArray.ext
      simp
theorem run_cmpB (h : Rd w A l) (k : Rd w B m) (c d : Nat) : (Extern.BytealgCompare.compare #[.slice A l.length c, .slice B m.length d]).run P w = .ok (.int .i64 (Lib.compareBytes l m)) w := by
  change Sem.run P (do pure (goInt (Extern.BytealgCompare.cmp (← Extern.Bytes.bytesOf (.slice A l.length c)) (← Extern.Bytes.bytesOf (.slice B m.length d))))) w = _
  simp only [Sem.run_bind, Sem.run_pure, run_bytesOf h, run_bytesOf k, Result.andThen]
  rw [Lib.cmp_eq]
  rfl
end
set_option maxRecDepth 100000 in
theorem cmpB_any (a b : Slc) (w : World) (h : Rd w a.1 a.2.2) (k : Rd w b.1 b.2.2) :
    Calls Try.prog 65 #[.slice a.1 a.2.2.length a.2.1, .slice b.1 b.2.2.length b.2.1] w fun e w' => e = .returned (.int .i64 (Lib.compareBytes a.2.2 b.2.2)) ∧ w' = w := by
  go_enter Try.func65, Try.ntmps65
  go_wp2
  rw [run_callFunc_extern Try.func97 (by kernel_rfl) (by kernel_rfl) (by kernel_rfl) (e := Extern.BytealgCompare.compare) (by kernel_rfl), run_cmpB h k]
  simp only [Result.andThen]
  rw [Oper.upon_value]
  go_wp2
  go_ret
  exact ⟨rfl, rfl⟩
theorem nanI_any (x : Int) (w : World) : Calls Try.prog 105 #[.int .i64 x] w fun e w' => e = .returned (.bool false) ∧ w' = w := by
  go_enter Try.func105, Try.ntmps105
  go_wp2
  go_ret
  exact ⟨by simp, rfl⟩
def cmpI (a b : Int) : Int := if a < b then -1 else if b < a then 1 else 0
theorem cmpI_any (a b : Int) (w : World) : Calls Try.prog 89 #[.int .i64 a, .int .i64 b] w fun e w' => e = .returned (.int .i64 (cmpI a b)) ∧ w' = w := by
  unfold cmpI
  go_enter Try.func89, Try.ntmps89
  go_wp2_with (go_at_call 105; refine (nanI_any _ _).mono ?_; rintro e w' ⟨rfl, rfl⟩)
  all_goals (go_ret; refine ⟨?_, rfl⟩; simp <;> omega)
theorem ordE_eq (a b : Ent) (c : Int) (h : Lib.compareBytes a.key b.key = c) : ordE a b = if c = 0 then cmpI b.seq a.seq else c := by unfold ordE cmpI; rw [h]
theorem order_any (a b : En) (w : World) (h : EnR w a) (k : EnR w b) :
    Calls Try.prog 47 #[enA a, enA b] w fun e w' => e = .returned (.int .i64 (ordE a.ent b.ent)) ∧ Chg No w w' := by
  have HQ : Hid (ordE a.ent b.ent = if Lib.compareBytes a.key.2.2 b.key.2.2 = 0 then cmpI b.seq a.seq else Lib.compareBytes a.key.2.2 b.key.2.2) := ordE_eq _ _ _ rfl
  unfold enA
  go_enter Try.func47, Try.ntmps47
  have HL := Lib.hid h
  have HK := Lib.hid k
  clear h k
  go_wp2_with (first
    | (go_at_call 65; refine (cmpB_any a.key b.key _ (HL.out.1.alloc _ |>.alloc _) (HK.out.1.alloc _ |>.alloc _)).mono ?_; rintro e w' ⟨rfl, rfl⟩)
    | (go_at_call 89; refine (cmpI_any _ _ _).mono ?_; rintro e w' ⟨rfl, rfl⟩))
  · go_ret
    have hn : ¬ Lib.compareBytes a.key.2.2 b.key.2.2 = 0 := by first | assumption | simp_all
    exact ⟨by rw [HQ.out, if_neg hn]; rfl, ((Chg.refl No w).alloc _).alloc _⟩
  · go_ret
    have hn : Lib.compareBytes a.key.2.2 b.key.2.2 = 0 := by first | assumption | simp_all
    exact ⟨by rw [HQ.out, if_pos hn]; rfl, ((Chg.refl No w).alloc _).alloc _⟩
theorem less_any (a b : En) (w : World) (h : EnR w a) (k : EnR w b) :
    Calls Try.prog 69 #[enA a, enA b] w fun e w' => e = .returned (.bool (lessE a.ent b.ent)) ∧ Chg No w w' := by
  have HQ : Hid (lessE a.ent b.ent = decide (ordE a.ent b.ent < 0)) := rfl
  have HE : Hid (∀ e : En, enA e = .agg #[.slice e.key.1 e.key.2.2.length e.key.2.1, .slice e.value.1 e.value.2.2.length e.value.2.1, .int .i64 e.seq, .bool e.dead]) := fun _ => rfl
  rw [HE.out, HE.out]
  go_enter Try.func69, Try.ntmps69
  have HL := Lib.hid h
  have HK := Lib.hid k
  clear h k
  have k0 : Chg No w ((w.alloc (.cells #[.slice a.key.1 a.key.2.2.length a.key.2.1, .slice a.value.1 a.value.2.2.length a.value.2.1, .int .i64 a.seq, .bool a.dead] 34)).alloc (.cells #[.slice b.key.1 b.key.2.2.length b.key.2.1, .slice b.value.1 b.value.2.2.length b.value.2.1, .int .i64 b.seq, .bool b.dead] 34)) := ((Chg.refl No w).alloc _).alloc _
  go_wp2_with (go_at_call 47; rw [← HE.out, ← HE.out]; refine (order_any a b _ (HL.out.new k0) (HK.out.new k0)).mono ?_; rintro e w' ⟨rfl, k1⟩)
  go_ret
  refine ⟨by rw [HQ.out]; rfl, k0.tr k1⟩
end Go.Proofs.Ytaoenbjfkahdjaa
