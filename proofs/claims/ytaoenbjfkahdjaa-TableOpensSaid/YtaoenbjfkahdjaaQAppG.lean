/- An append that outgrows a row that is only read; the document's order of laying (plain). -/
import Derived.Test.YtaoenbjfkahdjaaQ08
import Derived.Test.YtaoenbjfkahdjaaQ14
import Derived.Test.YtaoenbjfkahdjaaQ15
import Derived.Test.YtaoenbjfkahdjaaQBloomRef3
namespace Go.Proofs.Ytaoenbjfkahdjaa
open Go.RowKit
set_option linter.unusedVariables false
set_option maxRecDepth 100000

section
variable {P : Program} {w0 w : World} {F : SP} {ops : Array Oper} {o : Oper} {a : Act}
theorem wpList_appG {rest : List Oper} {Q : Exit → Act → World → Prop} (hgd : o.guard = none) (s x : Operand) (t : TypeId)
    (ho : o.op = .call { callee := .builtin .append, args := #[s, x], argTypes := #[t, t] })
    (e : TypeId) (i : TypeInfo) (z : Value) (size bytes : Nat) (ht : P.underlying t = some (.slice e)) (hi : P.info? e = some i) (hz : i.zero = some z)
    (hsize : i.size = size) (hby : i.bytes = bytes) (hzs : z.cells.size = size) (hsz : 0 < size)
    (g : Addr) (n cap : Nat) (xs : List Value) (hs : a.eval s = .slice (some g) n cap) (hl : xs.length = n * size) (h0 : RdV w (some g) xs) (hS : Sat w0 F w)
    (A : Option Addr) (m c : Nat) (news : List Value) (hx : a.eval x = .slice A m c) (hr : RdV w A news) (hm : news.length = m * size)
    (hgrow : cap < n + m) (hn : news ≠ []) (h63 : n + m ≤ maxLen) (hbytes : (n + m) * bytes ≤ 140737488355328)
    (h : ∀ A' c' w', Sat w0 (Row e size (.slice A' (n + m) c') (n + m) (xs ++ news) * F) w' → wpList P ops Q rest (a.put o.dst (.slice A' (n + m) c')) w') : wpList P ops Q (o :: rest) a w := by
  refine wpList_plain hgd fun K hK => ?_
  obtain ⟨b, off, rfl, _⟩ := hr hn
  subst hsize; subst hby
  have hsmall : n + m ≤ 9223372036854775807 := by simp only [maxLen] at h63; omega
  have hrun := run_append_grow (P := P) (w := w) t o.type e i z ht hi hz g n cap xs hl (h0.news rfl) ⟨b, off, none⟩ m c news hm (hr.news rfl) hgrow (by omega) (growslice_fits (by omega) hbytes)
  have hlen : (xs ++ news).length = (n + m) * i.size := by rw [List.length_append, hl, hm, Nat.add_mul]
  have hge := grownCap_ge w (n + m) cap e
  have hcm : grownCap w (n + m) cap e ≤ maxLen := grownCap_le_maxLen w (n + m) cap e h63
  have hown : (w.drew.alloc (.cells (xs.toArray ++ news.toArray ++ Builtin.zeroCells z.cells (grownCap w (n + m) cap e - (n + m))) e)).ownsRow w.heap.size e i.size
      (.slice (some ⟨w.heap.size, 0, none⟩) (n + m) (grownCap w (n + m) cap e)) (n + m) (xs ++ news) := by
    refine ⟨hlen, .inr ⟨w.heap.size, _, _, rfl, Nat.le_refl _, heap_alloc_new w.drew _, hge, hcm, ?_, ?_⟩⟩
    · simp only [Array.size_append, List.size_toArray, size_zeroCells, hzs, hl, hm, ← Nat.add_mul]
      congr 1
      omega
    · simp only [Array.toList_append, List.append_assoc]
      rw [← List.append_assoc, ← hlen]
      exact List.take_left
  have h2 := hS.gotRow (((Chg.refl No w).drew).alloc (.cells (xs.toArray ++ news.toArray ++ Builtin.zeroCells z.cells (grownCap w (n + m) cap e - (n + m))) e)) hown
  unfold Oper.wp execOp
  simp only [ho, resolve, invoke, builtin, Sem.run_bind, Sem.run_pure, Result.andThen_ok, List.map_toArray, List.map_cons, List.map_nil, hs, hx, hrun]
  exact hK _ _ (h _ _ _ h2)
end
/-- Bytes appended onto a row of one's own. -/
theorem wpList_appB {w0 w : World} {F : SP} {ops : Array Oper} {o : Oper} {a : Act} {rest : List Oper} {Q : Exit → Act → World → Prop} (hgd : o.guard = none) (s x : Operand) 
    (ho : o.op = .call { callee := .builtin .append, args := #[s, x], argTypes := #[32, 32] })
    (A : Option Addr) (cA : Nat) (l : List UInt8) (hs : a.eval s = .slice A l.length cA) (hS : Sat w0 (Row 5 1 (.slice A l.length cA) l.length (l.map bv) * F) w)
    (B : Option Addr) (cB : Nat) (m : List UInt8) (hx : a.eval x = .slice B m.length cB) (hr : Rd w B m) (k : List UInt8) (hk : k = l ++ m) (hl : k.length ≤ 140737488355328)
    (h : ∀ A' c' w', Sat w0 (Row 5 1 (.slice A' k.length c') k.length (k.map bv) * F) w' → wpList Try.prog ops Q rest (a.put o.dst (.slice A' k.length c')) w') : wpList Try.prog ops Q (o :: rest) a w := by
  subst hk
  rw [List.length_append] at hl
  obtain ⟨j0, hj, hy0, hy1, hy2⟩ := info_parts info_u8
  refine wpList_appS hgd s x 32 ho 5 j0 _ 1 1 Try.underlying32 hj hy0 hy1 hy2 rfl (by decide) _ l.length (l.map bv) hs w0 F hS B m.length cB (m.map bv) hx hr (by simp) (bv_one _) (by unfold maxLen; omega) (by omega) ?_
  intro A' c' w' h2
  have h3 := h A' c' w'
  rw [List.length_append, List.map_append] at h3
  exact h3 h2
theorem step_appB {w0 w : World} {F : SP} {ops : Array Oper} {o : Oper} {a : Act} {K : Act → World → Prop} {Q : Exit → Act → World → Prop} {E : Prop} (hgd : o.guard = none) (s x : Operand)
    (ho : o.op = .call { callee := .builtin .append, args := #[s, x], argTypes := #[32, 32] })
    (A : Option Addr) (cA : Nat) (l : List UInt8) (hs : a.eval s = .slice A l.length cA) (hS : Sat w0 (Row 5 1 (.slice A l.length cA) l.length (l.map bv) * F) w)
    (B : Option Addr) (cB : Nat) (m : List UInt8) (hx : a.eval x = .slice B m.length cB) (hr : Rd w B m) (k : List UInt8) (hk : k = l ++ m) (hl : k.length ≤ 140737488355328)
    (h : ∀ A' c' w', Sat w0 (Row 5 1 (.slice A' k.length c') k.length (k.map bv) * F) w' → K (a.put o.dst (.slice A' k.length c')) w') :
    if Region.wanted o (yielded ops a.tmps) = true then Oper.wp Try.prog o a w K Q else E := by
  subst hk
  rw [List.length_append] at hl
  obtain ⟨j0, hj, hy0, hy1, hy2⟩ := info_parts info_u8
  refine step_appS hgd s x 32 ho 5 j0 _ 1 1 Try.underlying32 hj hy0 hy1 hy2 rfl (by decide) _ l.length (l.map bv) hs w0 F hS B m.length cB (m.map bv) hx hr (by simp) (bv_one _) (by unfold maxLen; omega) (by omega) ?_
  intro A' c' w' h2
  have h3 := h A' c' w'
  rw [List.length_append, List.map_append] at h3
  exact h3 h2
/-- The document's filter, as a part of memory. -/
def FiltP (g h n c : Nat) (B : List UInt8) : SP := fun x => ∃ cur : Array Value, (n = B.length ∧ n ≤ cur.size ∧ ∀ j (hj : j < B.length), cur[j]? = some (bv B[j])) ∧ (Pt g 130 #[.slice (some ⟨h, 0, none⟩) n c] * Pt h 5 cur) x
section
variable {w0 w : World} {F : SP} {g h n c : Nat} {B : List UInt8}
theorem Sat.filtP (hS : Sat w0 (FiltP g h n c B * F) w) : ∃ cur : Array Value, (n = B.length ∧ n ≤ cur.size ∧ ∀ j (hj : j < B.length), cur[j]? = some (bv B[j])) ∧ Sat w0 (Pt g 130 #[.slice (some ⟨h, 0, none⟩) n c] * (Pt h 5 cur * F)) w := by
  obtain ⟨k, x, h1, a, f, h2, h3, ⟨cur, h4, h5⟩, h6⟩ := hS
  refine ⟨cur, h4, Sat.of (A := (Pt g 130 #[.slice (some ⟨h, 0, none⟩) n c] * Pt h 5 cur) * F) ⟨k, x, h1, a, f, h2, h3, h5, h6⟩ (star_assoc _ _ _)⟩
theorem Sat.filtI {cur : Array Value} (hc : n = B.length ∧ n ≤ cur.size ∧ ∀ j (hj : j < B.length), cur[j]? = some (bv B[j])) (hS : Sat w0 (Pt g 130 #[.slice (some ⟨h, 0, none⟩) n c] * (Pt h 5 cur * F)) w) : Sat w0 (FiltP g h n c B * F) w := by
  have h2 := hS.of (star_assoc (Pt g 130 #[.slice (some ⟨h, 0, none⟩) n c]) (Pt h 5 cur) F).symm
  exact h2.mono fun y ⟨a, f, h3, h4, h5, h6⟩ => ⟨a, f, h3, h4, ⟨cur, hc, h5⟩, h6⟩
theorem Sat.rfilt (hS : Sat w0 (FiltP g h n c B * F) w) : RFilt w g h n c B := by
  obtain ⟨cur, ⟨h1, h2, h3⟩, h4⟩ := hS.filtP
  exact ⟨h4.at, cur, h4.up2.at, h1, h2, h3⟩
theorem radd_S (hS : Sat w0 (FiltP g h n c B * F) w) (hB : 8 ≤ n ∧ n ≤ 262144) (A' : Option Addr) (kc : Nat) (key : List UInt8) (hk : Rd w A' key) (hl : key.length ≤ 140737488355328) :
    Calls Try.prog 76 #[.pointer (some ⟨g, 0, none⟩), .slice A' key.length kc] w fun x w' => x = .returned (.tuple #[]) ∧ Sat w0 (FiltP g h n c (addKey B key) * F) w' := by
  refine (refAdd_any g h n c kc A' B key w hS.rfilt hB hk hl).mono ?_
  rintro x w' ⟨rfl, ⟨_, cur', h2, h3, h4, h5⟩, k⟩
  obtain ⟨cur, _, h6⟩ := hS.filtP
  have h7 := h6.up2.turn k h2
  exact ⟨rfl, Sat.filtI ⟨h3, h4, h5⟩ h7.up2⟩
end
theorem rnumS (n k : Nat) (z : Int) (hz : z = k) (hn : n < 9223372036854775808) (h0 : 1 ≤ k) (h8 : k ≤ 8) (w0 w : World) (F : SP) (h : Sat w0 F w) (P : List UInt8) (hP : putB n k = P) :
    Calls Try.prog 74 #[.int .i64 (n : Int), .int .i64 z] w fun e w' => ∃ A c, e = .returned (.slice A P.length c) ∧ Sat w0 (Row 5 1 (.slice A P.length c) P.length (P.map bv) * F) w' := by
  subst hz; subst hP
  exact (rnum_any n k hn h0 h8 w0 w F h).mono fun _ _ ⟨A, c, e, _, _, hs⟩ => ⟨A, c, e, hs⟩
/-- The index, without its count. -/
def idxR (L : List Ent) (k : Nat) : List UInt8 := ((List.range k).map (idxAt L)).flatten
theorem idxR_succ (L : List Ent) (k : Nat) : idxR L (k + 1) = idxR L k ++ idxAt L k := by
  unfold idxR
  rw [List.range_succ, List.map_append, List.flatten_append]
  simp
theorem idxR_len (L : List Ent) (h : ∀ e ∈ L, e.key.length ≤ 128 ∧ e.value.length ≤ 16384) : ∀ k, (idxR L k).length ≤ k * 133
  | 0 => by simp [idxR]
  | k + 1 => by
    have h1 := idxR_len L h k
    have h2 := idxAt_len L k h
    rw [idxR_succ, List.length_append]
    omega
theorem addUp_twice (B key : List UInt8) : addKey (addKey B key) key = addKey B key := by
  have h := addAll_twice [key] B
  unfold addAll twiceK at h
  simpa using h
/-- The keys as they come leave the bits that they leave each once. -/
theorem bits_all (Z : List UInt8) (L : List Ent) : ∀ k, k ≤ L.length → addAll Z ((L.take k).map (·.key)) = addAll Z (unlike L k) ∧ ∀ (h : 0 < k) (hk : k - 1 < L.length), ∃ u, unlike L k = u ++ [(L[k - 1]'hk).key]
  | 0, _ => ⟨by simp [unlike], fun h => by omega⟩
  | k + 1, hk => by
    have hkl : k < L.length := by omega
    obtain ⟨ih, ih2⟩ := bits_all Z L k (by omega)
    have e1 : (L.take (k + 1)).map (·.key) = (L.take k).map (·.key) ++ [L[k].key] := by rw [List.take_succ_eq_append_getElem hkl, List.map_append]; rfl
    rw [e1, addAll_append, ih]
    have e2 : unlike L (k + 1) = if k = 0 then unlike L k ++ [L[k].key] else match L[k - 1]? with
        | some d => if d.key = L[k].key then unlike L k else unlike L k ++ [L[k].key]
        | none => unlike L k ++ [L[k].key] := by
      conv => lhs; unfold unlike
      rw [List.getElem?_eq_getElem hkl]
      rfl
    by_cases hk0 : k = 0
    · rw [if_pos hk0] at e2
      rw [e2]
      exact ⟨by rw [addAll_append], fun _ _ => ⟨_, rfl⟩⟩
    · rw [if_neg hk0, List.getElem?_eq_getElem (show k - 1 < L.length by omega)] at e2
      simp only at e2
      by_cases he : L[k - 1].key = L[k].key
      · rw [if_pos he] at e2
        obtain ⟨u, hu⟩ := ih2 (by omega) (by omega)
        rw [e2]
        refine ⟨?_, fun _ _ => ⟨u, by rw [hu, he]; simp⟩⟩
        rw [hu, he, addAll_append]
        unfold addAll
        simp only [List.foldl_cons, List.foldl_nil]
        exact addUp_twice _ _
      · rw [if_neg he] at e2
        rw [e2]
        exact ⟨by rw [addAll_append], fun _ _ => ⟨_, rfl⟩⟩
theorem bits_keys (L : List Ent) : addAll (List.replicate (nbytes (unlike L L.length).length 10) 0) (L.map (·.key)) = bitsB L := by
  have h := (bits_all (List.replicate (nbytes (unlike L L.length).length 10) 0) L L.length (Nat.le_refl _)).1
  rw [List.take_length] at h
  exact h
end Go.Proofs.Ytaoenbjfkahdjaa
