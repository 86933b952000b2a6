/- Joined, as they were built one by one: Skip6 Skip7 NokPut MemGet BloomFns. -/
import Derived.Test.YtaoenbjfkahdjaaQ01
import Derived.Test.YtaoenbjfkahdjaaQ05
namespace Go.Proofs.Ytaoenbjfkahdjaa
open Go.RowKit
set_option linter.unusedVariables false
set_option maxRecDepth 100000

def inB (tl : List UInt8) (e : Ent) : Bool := decide (tl = []) || decide (Lib.compareBytes e.key tl < 0)
/-- The entries of a level that a bound lets in. -/
def witE (tl : List UInt8) (i : Nat) (s : List Nd) : List Ent := ((s.filter fun n => decide (i < n.v)).map fun n => n.e.ent).takeWhile (inB tl)
theorem witE_none {tl : List UInt8} {i : Nat} {s : List Nd} (h : ∀ n ∈ s, n.v ≤ i) : witE tl i s = [] := by
  unfold witE
  have : s.filter (fun n => decide (i < n.v)) = [] := List.filter_eq_nil_iff.2 fun n hn => by have := h n hn; simp; omega
  rw [this]; rfl
theorem witE_some {tl : List UInt8} {i : Nat} {u t : List Nd} {m : Nd} (hu : ∀ n ∈ u, n.v ≤ i) (hm : i < m.v) : witE tl i (u ++ m :: t) = if inB tl m.e.ent then m.e.ent :: witE tl i t else [] := by
  unfold witE
  have : u.filter (fun n => decide (i < n.v)) = [] := List.filter_eq_nil_iff.2 fun n hn => by have := hu n hn; simp; omega
  rw [List.filter_append, this, List.nil_append, List.filter_cons, if_pos (by simpa using hm), List.map_cons, List.takeWhile_cons]
/-- Entries whose bytes are the holder's own. -/
def OwnE : List En → SP
  | [] => Emp
  | e :: es => Row 5 1 (slv' e.key) e.key.2.2.length (e.key.2.2.map bv) * (Row 5 1 (slv' e.value) e.value.2.2.length (e.value.2.2.map bv) * OwnE es)
theorem ownE_snoc (e : En) : ∀ es : List En, OwnE (es ++ [e]) = Row 5 1 (slv' e.key) e.key.2.2.length (e.key.2.2.map bv) * (Row 5 1 (slv' e.value) e.value.2.2.length (e.value.2.2.map bv) * OwnE es)
  | [] => rfl
  | x :: es => by
    show Row _ _ _ _ _ * (Row _ _ _ _ _ * OwnE (es ++ [e])) = _
    rw [ownE_snoc e es]
    show _ = Row _ _ _ _ _ * (Row _ _ _ _ _ * (Row _ _ _ _ _ * (Row _ _ _ _ _ * OwnE es)))
    ac_rfl
/-- A row of entries in new memory. -/
def ToldE (w : World) (l : List Ent) (x : Ending) (w' : World) : Prop := ∃ (es : List En) (A : Option Addr) (c : Nat), x = .returned (.slice A es.length c) ∧ es.map En.ent = l ∧
  Sat w (Row 34 4 (.slice A es.length c) es.length (es.flatMap enV) * OwnE es) w'
/-- What is asked of the sizes of a table. -/
structure Small (ns : List Nd) : Prop where
  len : ns.length ≤ 1000000
  each : ∀ n ∈ ns, n.e.key.2.2.length ≤ 1000000000 ∧ n.e.value.2.2.length ≤ 1000000000
theorem info_entry : (Try.prog.info? 34).map (fun i => (i.zero, i.size, i.bytes)) = some (some (.agg #[.slice none 0 0, .slice none 0 0, .int .i64 0, .bool false]), 4, 64) := by kernel_rfl
/-- What holds in the rounds. -/
structure Wst (w : World) (ns : List Nd) (tl : List UInt8) (i : Nat) (l : List Ent) (p s : List Nd) (es : List En) (A : Option Addr) (c : Nat) (wr : World) : Prop where
  eq : ns = p ++ s
  told : l = es.map En.ent ++ witE tl i s
  len : es.length ≤ p.length
  sat : Sat w (Row 34 4 (.slice A es.length c) es.length (es.flatMap enV) * OwnE es) wr
set_option maxHeartbeats 2000000 in
theorem within_any (T : Option Addr) (Tc : Nat) (tl : List UInt8) (b hr : Nat) (ns p0 s0 : List Nd) (i : Nat) (w : World) (hto : Rd w T tl) (hv : View w b hr ns) (hok : NOk ns) (hsm : Small ns) (hs : ns = p0 ++ s0) (hi : i < 8) :
    Calls Try.prog 72 #[ptrN (nxt noT s0 i), .int .i64 i, .slice T tl.length Tc] w (ToldE w (witE tl i s0)) := by
  have HV := Lib.hid hv
  have HO := Lib.hid hok
  have HT := Lib.hid hto
  have HS := Lib.hid hsm
  have H0 := Lib.hid hs
  obtain ⟨i0, hi0, hz0, hz1, hz2⟩ := info_parts info_entry
  clear hv hok hto hsm hs
  by_cases h0 : tl = []
  case' pos =>
    have HZ := Lib.hid h0
    rw [show tl.length = 0 by rw [h0]; rfl]
    have h1 : True := trivial
    clear h0
  case' neg =>
    have HZ := Lib.hid h0
    have h1 : ¬ tl.length = 0 := by simpa using h0
    clear h0
  all_goals
    go_enter Try.func72, Try.ntmps72
    go_wp2_with fail
    go_loopw [0, 7] (fun n out wr => ∃ (p s : List Nd) (es : List En) (A : Option Addr) (c : Nat), n = ptrN (nxt noT s i) ∧ out = .slice A es.length c ∧ Hid (Wst w ns tl i (witE tl i s0) p s es A c wr)) (fun n _ _ => rank ns n)
    case atStart => exact ⟨p0, s0, [], none, 0, rfl, rfl, H0.out, rfl, by simp, ((Sat.start w).row_nil _ 4).of (by rfl)⟩
    case round =>
      obtain ⟨p, s, es, A, c, rfl, rfl, HD⟩ := hrel
      rcases nxt_cases s i with ⟨e1, hlow⟩ | ⟨u, m, t, e2, e1, hm, hu⟩
      · have e3 : ptrN (nxt noT s i) = .pointer none := by rw [e1]; rfl
        rw [e3]
        have ht := HD.out.told
        rw [witE_none hlow, List.append_nil] at ht
        have HTl := Lib.hid ht
        clear e1 e3 hlow ht
        go_wp2_with fail
        go_ret
        exact ⟨es, A, c, rfl, HTl.out.symm, HD.out.sat⟩
      · have e3 : ptrN (nxt noT s i) = .pointer (some ⟨m.a, 0, none⟩) := by rw [e1]; rfl
        rw [e3]
        have hv2 := HV.out.new HD.out.sat.chg
        have hsp := HD.out.eq
        obtain ⟨n0, n1, n2, n3, n4, n5, n6⟩ := hv2.node (p ++ u) m t (by rw [hsp, e2]; simp)
        have n7 := n5 i (by have := HO.out.full m (by rw [hsp, e2]; simp); omega)
        have hmi : i < m.h := by have := HO.out.full m (by rw [hsp, e2]; simp); omega
        unfold slv' at n1 n2
        have HN := Lib.hid n6
        have HTw := Lib.hid (HT.out.new HD.out.sat.chg)
        have hdup := Lib.hid hv2.nodup
        have hml := HS.out.each m (by rw [hsp, e2]; simp)
        have hk2 : m.e.key.2.2.length ≤ 140737488355328 := by omega
        have hv3 : m.e.value.2.2.length ≤ 140737488355328 := by omega
        have hlen : es.length ≤ 1000000 := by have h1 := HD.out.len; have h2 := HS.out.len; rw [hsp, List.length_append] at h2; omega
        have ht := HD.out.told
        rw [e2, witE_some hu hm] at ht
        have HTl := Lib.hid ht
        have E1 := Lib.hid hsp
        have E2 := Lib.hid e2
        clear ht e1 e3 e2 hsp n5 n6 hv2 hml hm hu
        have hin : inB tl m.e.ent = (decide (tl = []) || decide (Lib.compareBytes m.e.key.2.2 tl < 0)) := rfl
        go_wp2_with (first
          | (go_at_call 65; refine (cmpB_any m.e.key (T, Tc, tl) _ HN.out.1 HTw.out).mono ?_; rintro x wx ⟨rfl, rfl⟩)
          | (go_at_call 48; refine (copied_any m.e w _ _ HD.out.sat HN.out hk2 hv3).mono ?_; rintro x w6 ⟨⟨A2, c2, B2, d2, rfl, hs6⟩, k6⟩; have HS6 := Lib.hid hs6; clear hs6 k6; simp only [enA])
          | (at_builtin; refine wpList_appS rfl (.tmp 33) (.tmp 39) 22 rfl 34 i0 _ 4 64 Try.underlying22 hi0 hz0 hz1 hz2 rfl (by decide) (.slice A es.length c) es.length (es.flatMap enV) rfl w _ (by exact (HS6.out.alloc' _).up3) (some ⟨w6.heap.size, 0, none⟩) 1 1 [.slice A2 m.e.key.2.2.length c2, .slice B2 m.e.value.2.2.length d2, .int .i64 m.e.seq, .bool m.e.dead] rfl (lit_rdv _ _ _) rfl (by intro u hu; simp at hu; rcases hu with rfl | rfl | rfl | rfl <;> rfl) (by unfold maxLen; omega) (by omega) ?_; intro A3 c3 w7 hs7; have HS7 := Lib.hid hs7; obtain ⟨r0, _, _, _, _, r5, _⟩ := (HV.out.new hs7.chg).node (p ++ u) m t (by rw [E1.out, E2.out]; simp); have r7 := r5 i hmi; clear r5 hs7))
        all_goals first
          | (go_ret
             have hB : inB tl m.e.ent = false := by
               have h2 := HZ.out
               rw [hin]
               simp [h2]
               omega
             refine ⟨es, A, c, rfl, ?_, HD.out.sat⟩
             rw [HTl.out, hB]; simp)
          | (refine ⟨⟨p ++ (u ++ [m]), t, es ++ [⟨(A2, c2, m.e.key.2.2), (B2, d2, m.e.value.2.2), m.e.seq, m.e.dead⟩], A3, c3, rfl, by rw [List.length_append]; rfl, ?_⟩, ?_⟩
             · have hB : inB tl m.e.ent = true := by
                 rw [hin]
                 have h2 := HZ.out
                 simp [h2]
                 all_goals (rcases ‹((tl.length : Int) == 0) = true ∨ Lib.compareBytes m.e.key.2.2 tl < 0› with q | q; exact absurd (by simpa using q) h2; exact q)
               refine ⟨by rw [E1.out, E2.out]; simp, ?_, ?_, ?_⟩
               · rw [HTl.out, hB, if_pos rfl, List.map_append, List.append_assoc]; rfl
               · have := HD.out.len
                 simp only [List.length_append, List.length_cons, List.length_nil]; omega
               · refine HS7.out.of ?_
                 rw [ownE_snoc, List.flatMap_append, List.length_append]
                 rfl
             · have r1 := rank_at (p := p ++ u) (s := t) (m := m) hdup.out (by rw [E1.out, E2.out]; simp)
               have r2 := rank_nxt (p := p ++ (u ++ [m])) (s := t) (i := i) hdup.out (by rw [E1.out, E2.out]; simp)
               omega)
end Go.Proofs.Ytaoenbjfkahdjaa
namespace Go.Proofs.Ytaoenbjfkahdjaa
open Go.RowKit
set_option linter.unusedVariables false
set_option maxRecDepth 100000

theorem Sat.base' {w w2 w3 : World} {A : SP} (k : Chg No w w2) (h : Sat w2 A w3) : Sat w A w3 := by
  obtain ⟨x, h1, h2⟩ := h.hp
  have := k.size
  exact ⟨k.tr h.chg, x, fun b y hy => ⟨(h1 b y hy).1, fun e => by have := (h1 b y hy).2 e; omega⟩, h2⟩
theorem nok_nil : NOk [] := ⟨by simp, List.Pairwise.nil⟩
theorem new_any (w0 w : World) (F : SP) (h : Sat w0 F w) : Calls Try.prog 11 #[] w fun x w' => ∃ b hr, x = .returned (.pointer (some ⟨b, 0, none⟩)) ∧ Sat w0 (SkipC b hr [] 0 0 * F) w' := by
  have hmk : ∀ W, (Instr.makeSlice 86 (.int .i64 8) (.int .i64 8)).run Try.prog W = .ok (.slice (some ⟨W.heap.size, 0, none⟩) 8 8) (W.alloc (.cells (rowN noT 8 0) 94)) := fun W => make_ptrs 8 (by omega) W
  have HS := Lib.hid h
  clear h
  go_enter Try.func11, Try.ntmps11
  go_wp2_with fail
  go_ret
  have h1 := (HS.out.allocPt 94 (rowN noT 8 0)).allocAt (b := w.heap.size + 1) 90 #[.slice (some ⟨w.heap.size, 0, none⟩) 8 8, .int .i64 0, .int .i64 0] (by simp)
  refine ⟨_, w.heap.size, rfl, ?_⟩
  refine Sat.of ?_ (skip_tab ..).symm
  have h3 : Sat w0 (RoL (slcs []) * (Pt (w.heap.size + 1) 90 #[.slice (some ⟨w.heap.size, 0, none⟩) 8 8, .int .i64 0, .int .i64 0] * (Pt w.heap.size 94 (rowN noT 8 0) * F))) _ := h1.rolNil _ (by simp [slcs])
  exact h3.of (by
    show RoL (slcs []) * (Pt _ _ _ * (Pt _ _ (rowN noT 8 0) * F)) = Pt _ _ _ * (Pt _ _ (rowN noT 8 0) * (Emp * (RoL (slcs []) * F)))
    rw [emp_star]; ac_rfl)
def fromE (l : List UInt8) : Ent := ⟨l, [], 9223372036854775807, false⟩
/-- What a range tells. -/
def rangeE (fl tl : List UInt8) (ns : List Nd) : List Ent := witE tl 0 (behind (fromE fl) ns)
theorem run_index0 (a0 a1 a2 a3 a4 a5 a6 a7 : Option Addr) (W : World) : (Instr.index 92 (.agg #[.pointer a0, .pointer a1, .pointer a2, .pointer a3, .pointer a4, .pointer a5, .pointer a6, .pointer a7]) (.int .i64 0)).run Try.prog W = .ok (.pointer a0) W := by
  simp [Instr.index, run_underlying Try.underlying92, asIntOf, go_sem]
set_option maxHeartbeats 1000000 in
theorem range_any (FA : Option Addr) (Fc : Nat) (fl : List UInt8) (T : Option Addr) (Tc : Nat) (tl : List UInt8) (b hr : Nat) (ns : List Nd) (w : World) (hf : Rd w FA fl) (hto : Rd w T tl) (hv : View w b hr ns) (hok : NOk ns) (hsm : Small ns) :
    Calls Try.prog 20 #[.pointer (some ⟨b, 0, none⟩), .slice FA fl.length Fc, .slice T tl.length Tc] w (ToldE w (rangeE fl tl ns)) := by
  have HV := Lib.hid hv
  have HO := Lib.hid hok
  have HT := Lib.hid hto
  have HF := Lib.hid hf
  have HS := Lib.hid hsm
  clear hv hok hto hf hsm
  have HQ : Hid (Value.agg (outC b (ahead (fromE fl) ns) 0) = .agg #[.pointer (some ⟨lastAt b (ahead (fromE fl) ns) 0, 0, none⟩), .pointer (some ⟨lastAt b (ahead (fromE fl) ns) 1, 0, none⟩), .pointer (some ⟨lastAt b (ahead (fromE fl) ns) 2, 0, none⟩), .pointer (some ⟨lastAt b (ahead (fromE fl) ns) 3, 0, none⟩), .pointer (some ⟨lastAt b (ahead (fromE fl) ns) 4, 0, none⟩), .pointer (some ⟨lastAt b (ahead (fromE fl) ns) 5, 0, none⟩), .pointer (some ⟨lastAt b (ahead (fromE fl) ns) 6, 0, none⟩), .pointer (some ⟨lastAt b (ahead (fromE fl) ns) 7, 0, none⟩)]) := rfl
  have hix := run_index0
  go_enter Try.func20, Try.ntmps20
  go_wp2_with (first
    | (go_at_call 46; refine (before_any b hr ns ⟨(FA, Fc, fl), (none, 0, []), 9223372036854775807, false⟩ _ HV.out HO.out ⟨HF.out, Rd.nil _ _⟩).mono ?_; rintro x w2 ⟨rfl, k2⟩; rw [show (⟨(FA, Fc, fl), (none, 0, []), 9223372036854775807, false⟩ : En).ent = fromE fl from rfl, HQ.out]; have HK := Lib.hid k2; obtain ⟨R, h', hlt, q0, q1⟩ := (HV.out.new k2).last HO.out (ahead_behind (fromE fl) ns) (i := 0) (by omega); clear k2)
    | (go_at_call 72; refine (within_any T Tc tl b hr ns (ahead (fromE fl) ns) (behind (fromE fl) ns) 0 _ (HT.out.new HK.out) (HV.out.new HK.out) HO.out HS.out (ahead_behind _ _) (by omega)).mono ?_; rintro x w3 ⟨es, A, c, rfl, he, hs⟩; have HE := Lib.hid he; have HS3 := Lib.hid (Sat.base' HK.out hs); clear he hs))
  go_ret
  exact ⟨es, A, c, rfl, HE.out, HS3.out⟩
end Go.Proofs.Ytaoenbjfkahdjaa
namespace Go.Proofs.Ytaoenbjfkahdjaa
open Go.RowKit
set_option linter.unusedVariables false

theorem nok_put {ns : List Nd} {N : Nd} {e : Ent} {H : Int} (hok : NOk ns) (ht : twice e ns = false) (hN : N.e.ent = e) (hv : N.v = N.h) (hh : N.h = clampH H) : NOk (ahead e ns ++ N :: behind e ns) := by
  have hs := hok.sort
  have e0 := ahead_behind e ns
  have hmem : ∀ n, n ∈ ahead e ns ∨ n ∈ behind e ns → n ∈ ns := fun n hn => by rw [e0]; exact List.mem_append.2 hn
  have hlt : ∀ n ∈ behind e ns, LTE N.e.ent n.e.ent := by
    intro n hn
    rcases lte_tri N.e.ent n.e.ent with q | q | q
    · exact q
    · exfalso
      rw [hN] at q
      cases hb : behind e ns with
      | nil => rw [hb] at hn; simp at hn
      | cons m s =>
        rw [hb] at hn
        rw [e0, hb, List.pairwise_append, List.pairwise_cons] at hs
        rcases List.mem_cons.1 hn with z | hn
        · subst z; exact behind_head hb q
        · exact behind_head hb (lte_trans (hs.2.1.1 n hn) q)
    · exfalso
      have : twice e ns = true := (twice_iff hok).2 ⟨n, hmem n (.inr hn), by rw [← hN]; exact q.symm⟩
      rw [ht] at this; cases this
  refine ⟨fun n hn => ?_, ?_⟩
  · rcases List.mem_append.1 hn with hn | hn
    · exact hok.full n (hmem n (.inl hn))
    · rcases List.mem_cons.1 hn with hn | hn
      · subst hn
        refine ⟨hv, ?_, ?_⟩ <;> rw [hh] <;> unfold clampH <;> omega
      · exact hok.full n (hmem n (.inr hn))
  · rw [e0, List.pairwise_append] at hs
    rw [List.pairwise_append, List.pairwise_cons]
    refine ⟨hs.1, ⟨hlt, hs.2.1⟩, fun a ha c hc => ?_⟩
    rcases List.mem_cons.1 hc with hc | hc
    · subst hc; rw [hN]; exact (mem_ahead ha).2
    · exact hs.2.2 a ha c hc
end Go.Proofs.Ytaoenbjfkahdjaa
namespace Go.Proofs.Ytaoenbjfkahdjaa
open Go.RowKit
set_option linter.unusedVariables false
set_option maxRecDepth 100000

theorem str_beq (l m : List UInt8) : ((ByteArray.mk l.toArray).toList == (ByteArray.mk m.toArray).toList) = decide (l = m) := by
  by_cases h : l = m
  · subst h; simp
  · simp [h]
theorem str_two (l m : List UInt8) : ∃ (SA SB : ByteArray) (B : Bool), SA = ByteArray.mk l.toArray ∧ SB = ByteArray.mk m.toArray ∧ (SA.toList == SB.toList) = B ∧ B = decide (l = m) := ⟨_, _, _, rfl, rfl, rfl, str_beq l m⟩
theorem str_any {w : World} {A : Option Addr} {l : List UInt8} (h : Rd w A l) (c : Nat) : (convert 32 9 (.slice A l.length c)).run Try.prog w = .ok (.string ⟨l.toArray⟩) w :=
  h.str (P := Try.prog) 32 9 5 Try.underlying32 Try.underlying5 Try.underlying9 c
theorem beq_any (a b : Slc) (w : World) (ha : Rd w a.1 a.2.2) (hb : Rd w b.1 b.2.2) :
    Calls Try.prog 60 #[.slice a.1 a.2.2.length a.2.1, .slice b.1 b.2.2.length b.2.1] w fun e w' => e = .returned (.bool (decide (a.2.2 = b.2.2))) ∧ w' = w := by
  obtain ⟨SA, SB, B, e1, e2, e3, e4⟩ := str_two a.2.2 b.2.2
  have s1 := str_any ha a.2.1
  have s2 := str_any hb b.2.1
  rw [← e1] at s1
  rw [← e2] at s2
  rw [← e4]
  clear ha hb e1 e2 e4
  go_enter Try.func60, Try.ntmps60
  go_wp2
  go_ret
  exact ⟨rfl, rfl⟩
theorem cutB_any (a : Slc) (w : World) (hc : a.2.2.length ≤ a.2.1) :
    Calls Try.prog 44 #[.slice a.1 a.2.2.length a.2.1, .int .i64 200] w fun e w' => e = .returned (.slice a.1 (a.2.2.take 200).length a.2.1) ∧ w' = w := by
  by_cases h : 200 < a.2.2.length
  · have HL : Hid ((a.2.2.take 200).length = 200) := by unfold Hid; rw [List.length_take]; omega
    rw [HL.out]
    have h2 : (200 : Int) ≤ a.2.1 := by omega
    have h3 : (200 : Int) < a.2.2.length := by omega
    have h4 : 200 ≤ a.2.1 := by omega
    go_enter Try.func44, Try.ntmps44
    go_wp2
    go_ret
    exact ⟨rfl, rfl⟩
  · have HL : Hid ((a.2.2.take 200).length = a.2.2.length) := by unfold Hid; rw [List.length_take]; omega
    rw [HL.out]
    have h3 : ¬ (200 : Int) < a.2.2.length := by omega
    go_enter Try.func44, Try.ntmps44
    go_wp2
    go_ret
    exact ⟨rfl, rfl⟩
theorem cutB_any' (a : Slc) (l : List UInt8) (hl : l = a.2.2.take 200) (w : World) (hc : a.2.2.length ≤ a.2.1) :
    Calls Try.prog 44 #[.slice a.1 a.2.2.length a.2.1, .int .i64 200] w fun e w' => e = .returned (.slice a.1 l.length a.2.1) ∧ w' = w := by subst hl; exact cutB_any a w hc
/-- An entry with short bytes. -/
def cutN (e : En) : En := ⟨(e.key.1, e.key.2.1, e.key.2.2.take 200), (e.value.1, e.value.2.1, e.value.2.2.take 200), e.seq, e.dead⟩
theorem cutN_r {w : World} {e : En} (h : EnR w e) : EnR w (cutN e) := ⟨h.1.take 200, h.2.take 200⟩
theorem cutN_len (e : En) : (cutN e).key.2.2.length ≤ 200 ∧ (cutN e).value.2.2.length ≤ 200 := ⟨by show (e.key.2.2.take 200).length ≤ 200; rw [List.length_take]; omega, by show (e.value.2.2.take 200).length ≤ 200; rw [List.length_take]; omega⟩
def eqE (a b : Ent) : Bool := decide (a.key = b.key) && decide (a.value = b.value) && (a.seq == b.seq) && (a.dead == b.dead)
theorem eqE_iff (a b : Ent) : eqE a b = true ↔ a = b := by
  unfold eqE
  cases a; cases b
  simp [and_assoc]
set_option maxHeartbeats 1000000 in
theorem eqE_any (a b : En) (w : World) (ha : EnR w a) (hb : EnR w b) :
    Calls Try.prog 23 #[enA a, enA b] w fun e w' => e = .returned (.bool (eqE a.ent b.ent)) ∧ Chg No w w' := by
  have k0 : Chg No w ((w.alloc (.cells #[.slice a.key.1 a.key.2.2.length a.key.2.1, .slice a.value.1 a.value.2.2.length a.value.2.1, .int .i64 a.seq, .bool a.dead] 34)).alloc (.cells #[.slice b.key.1 b.key.2.2.length b.key.2.1, .slice b.value.1 b.value.2.2.length b.value.2.1, .int .i64 b.seq, .bool b.dead] 34)) := ((Chg.refl No w).alloc _).alloc _
  have HK0 := Lib.hid k0
  obtain ⟨SA, SB, B, e1, e2, e3, e4⟩ := str_two a.key.2.2 b.key.2.2
  obtain ⟨TA, TB, C, g1, g2, g3, g4⟩ := str_two a.value.2.2 b.value.2.2
  have s1 := str_any (ha.1.new k0) a.key.2.1
  have s2 := str_any (hb.1.new k0) b.key.2.1
  have s3 := str_any (ha.2.new k0) a.value.2.1
  have s4 := str_any (hb.2.new k0) b.value.2.1
  rw [← e1] at s1
  rw [← e2] at s2
  rw [← g1] at s3
  rw [← g2] at s4
  have HQ : Hid (eqE a.ent b.ent = (B && C && (a.seq == b.seq) && (a.dead == b.dead))) := by unfold Hid; rw [e4, g4]; rfl
  clear ha hb e1 e2 e4 g1 g2 g4 k0
  unfold enA
  go_enter Try.func23, Try.ntmps23
  cases B <;> cases C
  all_goals
    go_wp2_with fail
  all_goals
    go_ret
    exact ⟨by rw [HQ.out]; first | rfl | simp_all, ((Chg.refl No w).alloc _).alloc _⟩
/-- What Get asks for. -/
def seekE (key : List UInt8) (seq : Int) : Ent := ⟨key, [], seq, false⟩
def getE (key : List UInt8) (seq : Int) (ns : List Nd) : Option Ent := match behind (seekE key seq) ns with
  | m :: _ => if m.e.key.2.2 = key then some m.e.ent else none
  | [] => none
def noE : Ent := ⟨[], [], 0, false⟩
/-- What Get gives. -/
def GotE (w : World) (q : Option Ent) (x : Ending) (w' : World) : Prop := ∃ g : En, x = .returned (.tuple #[enA g, .bool q.isSome]) ∧ g.ent = q.getD noE ∧ Sat w (OwnE [g]) w'
theorem results_cell_tmp {P : Program} {fn : Func} {p q : Tmp} {ty : TypeId} (h : fn.results = #[.cell p ty, .tmp q]) (tmps : Array Value) (w : World) (g : Nat) (t : TypeId) (cs : Array Value) (fr : Nat × Nat) (d : TypeDesc) (v : Value)
    (hp : tmps.getD p undef = .pointer (some ⟨g, 0, none⟩)) (hq : tmps.getD q undef = v) (hg : w.heap[g]? = some (.cells cs t fr))
    (hu : P.underlying ty = some d) (hd : (match d with | .struct _ | .array _ _ => true | _ => false) = true) (hi : (P.info? ty).map (·.size) = some cs.size) :
    (results fn tmps).run P w = .ok (.tuple #[.agg cs, v]) w := by
  have hp' : tmps[p]?.getD undef = .pointer (some ⟨g, 0, none⟩) := by simpa using hp
  have hq' : tmps[q]?.getD undef = v := by simpa using hq
  simp [results, h, hp', hq', asAddr, run_loadVar_row w g t ty cs fr d hg hu hd hi]
set_option maxHeartbeats 2000000 in
theorem get_any (K : Slc) (seq : Int) (b hr : Nat) (ns : List Nd) (w : World) (hk : Rd w K.1 K.2.2) (hv : View w b hr ns) (hok : NOk ns) (hsm : Small ns) :
    Calls Try.prog 21 #[.pointer (some ⟨b, 0, none⟩), .slice K.1 K.2.2.length K.2.1, .int .i64 seq] w (GotE w (getE K.2.2 seq ns)) := by
  have HV := Lib.hid hv
  have HO := Lib.hid hok
  have HK := Lib.hid hk
  have HS := Lib.hid hsm
  have h1 := (Sat.start w).allocAt (b := w.heap.size) 34 #[.slice none 0 0, .slice none 0 0, .int .i64 0, .bool false] rfl
  have c1 : Chg No w (w.alloc (.cells #[.slice none 0 0, .slice none 0 0, .int .i64 0, .bool false] 34)) := (Chg.refl No w).alloc _
  have HC1 := Lib.hid c1
  have HS1 := Lib.hid h1
  clear hv hok hk hsm h1 c1
  have HQ : Hid (Value.agg (outC b (ahead (seekE K.2.2 seq) ns) 0) = .agg #[.pointer (some ⟨lastAt b (ahead (seekE K.2.2 seq) ns) 0, 0, none⟩), .pointer (some ⟨lastAt b (ahead (seekE K.2.2 seq) ns) 1, 0, none⟩), .pointer (some ⟨lastAt b (ahead (seekE K.2.2 seq) ns) 2, 0, none⟩), .pointer (some ⟨lastAt b (ahead (seekE K.2.2 seq) ns) 3, 0, none⟩), .pointer (some ⟨lastAt b (ahead (seekE K.2.2 seq) ns) 4, 0, none⟩), .pointer (some ⟨lastAt b (ahead (seekE K.2.2 seq) ns) 5, 0, none⟩), .pointer (some ⟨lastAt b (ahead (seekE K.2.2 seq) ns) 6, 0, none⟩), .pointer (some ⟨lastAt b (ahead (seekE K.2.2 seq) ns) 7, 0, none⟩)]) := rfl
  have hix := run_index0
  go_enter Try.func21, Try.ntmps21
  go_upto_region 2 with (go_at_call 46; refine (before_any b hr ns ⟨K, (none, 0, []), seq, false⟩ _ (HV.out.new HC1.out) HO.out ⟨HK.out.new HC1.out, Rd.nil _ _⟩).mono ?_; rintro x w2 ⟨rfl, k2⟩; rw [show (⟨K, (none, 0, []), seq, false⟩ : En).ent = seekE K.2.2 seq from rfl, HQ.out]; have HK2 := Lib.hid (HC1.out.tr k2); have HS2 := Lib.hid (HS1.out.new k2); obtain ⟨R, h', hlt, q0, q1⟩ := (HV.out.new HK2.out).last HO.out (ahead_behind (seekE K.2.2 seq) ns) (i := 0) (by omega); clear k2)
  have HV2 := Lib.hid (HV.out.new HK2.out)
  have HG : Hid (getE K.2.2 seq ns = match behind (seekE K.2.2 seq) ns with
    | m :: _ => if m.e.key.2.2 = K.2.2 then some m.e.ent else none
    | [] => none) := rfl
  generalize w.heap.size = O at *
  rcases nxt_cases (behind (seekE K.2.2 seq) ns) 0 with ⟨e1, hlow⟩ | ⟨u, m, t, e2, e1, hm, hu⟩
  · have hnil : behind (seekE K.2.2 seq) ns = [] := by
      cases hb : behind (seekE K.2.2 seq) ns with
      | nil => rfl
      | cons m s =>
        have h1 := hlow m (by rw [hb]; simp)
        have h2 := HO.out.full m (by rw [ahead_behind (seekE K.2.2 seq) ns, hb]; simp)
        omega
    have HT : Hid (getE K.2.2 seq ns = none) := by unfold Hid; rw [HG.out, hnil]
    have e3 : ptrN (nxt noT (behind (seekE K.2.2 seq) ns) 0) = .pointer none := by rw [e1]; rfl
    rw [e3]
    have c0 := HS2.out.cell 0; have c1 := HS2.out.cell 1; have c2 := HS2.out.cell 2; have c3 := HS2.out.cell 3; have f0 := HS2.out.frozen 0; have f1 := HS2.out.frozen 1; have f2 := HS2.out.frozen 2; have f3 := HS2.out.frozen 3
    have h6 := (((HS2.out.set 0 (.slice none 0 0)).set 1 (.slice none 0 0)).set 2 (.int .i64 0)).set 3 (.bool false)
    clear e1 e3 hlow hnil q0 q1
    go_wp2_with fail
    revert h6
    generalize World.setCell _ _ _ = w4
    intro h6
    refine bodyPost_ret (results_cell_tmp (p := 6) (q := 7) (by kernel_rfl) _ _ O 34 _ (0, 0) _ _ rfl rfl h6.at Try.underlying34 rfl (by kernel_rfl)) rfl ?_
    rw [HT.out]
    refine ⟨⟨(none, 0, []), (none, 0, []), 0, false⟩, rfl, rfl, ?_⟩
    exact ((h6.right.row_nil 5 1).row_nil 5 1)
  · have hu0 : u = [] := by
      cases hb : u with
      | nil => rfl
      | cons x s =>
        have h1 := hu x (by rw [hb]; simp)
        have h2 := HO.out.full x (by rw [ahead_behind (seekE K.2.2 seq) ns, e2, hb]; simp)
        omega
    subst hu0
    rw [List.nil_append] at e2
    have hgm : getE K.2.2 seq ns = if m.e.key.2.2 = K.2.2 then some m.e.ent else none := by rw [HG.out, e2]
    have e3 : ptrN (nxt noT (behind (seekE K.2.2 seq) ns) 0) = .pointer (some ⟨m.a, 0, none⟩) := by rw [e1]; rfl
    rw [e3]
    obtain ⟨n0, n1, n2, n3, n4, n5, n6⟩ := HV2.out.node (ahead (seekE K.2.2 seq) ns) m t (by rw [← e2]; exact ahead_behind _ _)
    have hml := HS.out.each m (by rw [ahead_behind (seekE K.2.2 seq) ns, e2]; simp)
    have hk2 : m.e.key.2.2.length ≤ 140737488355328 := by omega
    have hv2 : m.e.value.2.2.length ≤ 140737488355328 := by omega
    unfold slv' at n1 n2
    have HN := Lib.hid n6
    clear e1 e3 hm hu n5 n6 n0 e2 q0 q1 hml
    by_cases hkk : m.e.key.2.2 = K.2.2
    · rw [if_pos hkk] at hgm
      have HT := Lib.hid hgm
      have HB : Hid (decide (m.e.key.2.2 = K.2.2) = true) := by simpa [Hid] using hkk
      clear hgm hkk
      go_wp2_with (first
        | (go_at_call 60; refine (beq_any m.e.key K _ HN.out.1 (HK.out.new HK2.out)).mono ?_; rintro x wx ⟨rfl, rfl⟩; rw [HB.out])
        | (go_at_call 48; refine (copied_any m.e w _ _ HS2.out HN.out hk2 hv2).mono ?_; rintro x w6 ⟨⟨A2, c2, B2, d2, rfl, hs6⟩, k6⟩; have z0 := hs6.up3.cell 0; have z1 := hs6.up3.cell 1; have z2 := hs6.up3.cell 2; have z3 := hs6.up3.cell 3; have f0 := hs6.up3.frozen 0; have f1 := hs6.up3.frozen 1; have f2 := hs6.up3.frozen 2; have f3 := hs6.up3.frozen 3; have h9 := (((hs6.up3.set 0 (.slice A2 m.e.key.2.2.length c2)).set 1 (.slice B2 m.e.value.2.2.length d2)).set 2 (.int .i64 m.e.seq)).set 3 (.bool m.e.dead); have HS9 := Lib.hid h9; clear hs6 k6 h9; simp only [enA]))
      have h9 := HS9.out
      revert h9
      generalize World.setCell _ _ _ = w4
      intro h9
      refine bodyPost_ret (results_cell_tmp (p := 6) (q := 7) (by kernel_rfl) _ _ O 34 _ (0, 0) _ _ rfl rfl h9.at Try.underlying34 rfl (by kernel_rfl)) rfl ?_
      rw [HT.out]
      exact ⟨⟨(A2, c2, m.e.key.2.2), (B2, d2, m.e.value.2.2), m.e.seq, m.e.dead⟩, rfl, rfl, h9.right⟩
    · rw [if_neg hkk] at hgm
      have HT := Lib.hid hgm
      have HB : Hid (decide (m.e.key.2.2 = K.2.2) = false) := by simpa [Hid] using hkk
      clear hgm hkk
      have c0 := HS2.out.cell 0; have c1 := HS2.out.cell 1; have c2 := HS2.out.cell 2; have c3 := HS2.out.cell 3; have f0 := HS2.out.frozen 0; have f1 := HS2.out.frozen 1; have f2 := HS2.out.frozen 2; have f3 := HS2.out.frozen 3
      have h6 := (((HS2.out.set 0 (.slice none 0 0)).set 1 (.slice none 0 0)).set 2 (.int .i64 0)).set 3 (.bool false)
      have HS6 := Lib.hid h6
      clear h6
      go_wp2_with (first
        | (go_at_call 60; refine (beq_any m.e.key K _ HN.out.1 (HK.out.new HK2.out)).mono ?_; rintro x wx ⟨rfl, rfl⟩; rw [HB.out]))
      have h6 := HS6.out
      revert h6
      generalize World.setCell _ _ _ = w4
      intro h6
      refine bodyPost_ret (results_cell_tmp (p := 6) (q := 7) (by kernel_rfl) _ _ O 34 _ (0, 0) _ _ rfl rfl h6.at Try.underlying34 rfl (by kernel_rfl)) rfl ?_
      rw [HT.out]
      refine ⟨⟨(none, 0, []), (none, 0, []), 0, false⟩, rfl, rfl, ?_⟩
      exact ((h6.right.row_nil 5 1).row_nil 5 1)
end Go.Proofs.Ytaoenbjfkahdjaa
namespace Go.Proofs.Ytaoenbjfkahdjaa
open Go.RowKit
set_option linter.unusedVariables false
set_option maxRecDepth 100000

def fnvStep (h : Nat) (c : UInt8) : Nat := ((h ^^^ c.toNat) * 1099511628211) % 18446744073709551616
def fnv (l : List UInt8) : Nat := l.foldl fnvStep 14695981039346656037
def hop (key : List UInt8) : Nat := fnv key / 4294967296 ||| 1
def walkAt (key : List UInt8) (i : Nat) : Nat := (fnv key + i * hop key) % 18446744073709551616
def place (key : List UInt8) (i m : Nat) : Nat := walkAt key i % m
def mask (p : Nat) : UInt8 := UInt8.ofNat (2 ^ (p % 8))
def setBit (B : List UInt8) (p : Nat) : List UInt8 := B.set (p / 8) (B.getD (p / 8) 0 ||| mask p)
def hasBit (B : List UInt8) (p : Nat) : Bool := (B.getD (p / 8) 0 &&& mask p) != 0
def addUp (B : List UInt8) (key : List UInt8) : Nat → List UInt8
  | 0 => B
  | k + 1 => setBit (addUp B key k) (place key k (8 * B.length))
def addKey (B : List UInt8) (key : List UInt8) : List UInt8 := addUp B key 4
def goBit (B : List UInt8) (key : List UInt8) (k : Nat) : Bool := hasBit B (place key k (8 * B.length))
def hasKey (B : List UInt8) (key : List UInt8) : Bool := goBit B key 0 && goBit B key 1 && goBit B key 2 && goBit B key 3
def addAll (B : List UInt8) (keys : List (List UInt8)) : List UInt8 := keys.foldl addKey B

theorem fnv_nil : fnv [] = 14695981039346656037 := rfl
theorem fnvStep_lt (h : Nat) (c : UInt8) : fnvStep h c < 18446744073709551616 := Nat.mod_lt _ (by omega)
theorem fnv_lt (l : List UInt8) : fnv l < 18446744073709551616 := by
  unfold fnv
  rcases List.eq_nil_or_concat l with rfl | ⟨l, c, rfl⟩
  · rw [List.foldl_nil]; omega
  · rw [List.concat_eq_append, List.foldl_append, List.foldl_cons, List.foldl_nil]; exact fnvStep_lt _ _
theorem fnv_take (l : List UInt8) (k : Nat) (h : k < l.length) : fnv (l.take (k + 1)) = fnvStep (fnv (l.take k)) l[k] := by
  unfold fnv
  rw [List.take_succ_eq_append_getElem h, List.foldl_append, List.foldl_cons, List.foldl_nil]
theorem hop_lt (key : List UInt8) : hop key < 4294967296 := by
  have := fnv_lt key
  exact Nat.or_lt_two_pow (n := 32) (by omega) (by omega)
theorem walkAt_lt (key : List UInt8) (i : Nat) : walkAt key i < 18446744073709551616 := Nat.mod_lt _ (by omega)
theorem walkAt_zero (key : List UInt8) : walkAt key 0 = fnv key := by
  unfold walkAt
  rw [Nat.zero_mul, Nat.add_zero, Nat.mod_eq_of_lt (fnv_lt key)]
theorem walkAt_succ (key : List UInt8) (i : Nat) : walkAt key (i + 1) = (walkAt key i + hop key) % 18446744073709551616 := by
  unfold walkAt
  rw [Nat.succ_mul, Nat.mod_add_mod, Nat.add_assoc]
theorem place_lt (key : List UInt8) (i m : Nat) (hm : 0 < m) : place key i m < m := Nat.mod_lt _ hm
theorem place_byte (key : List UInt8) (i n : Nat) (hn : 0 < n) : place key i (8 * n) / 8 < n := by
  have := place_lt key i (8 * n) (by omega)
  omega
theorem mask_nat (p : Nat) : (mask p).toNat = 2 ^ (p % 8) := by
  unfold mask
  have h : p % 8 < 8 := Nat.mod_lt _ (by omega)
  have : 2 ^ (p % 8) < 256 := by
    have := Nat.pow_lt_pow_right (a := 2) (by omega) h
    simpa using this
  simp [Nat.mod_eq_of_lt this]
theorem length_setBit (B : List UInt8) (p : Nat) : (setBit B p).length = B.length := by simp [setBit]
theorem length_addUp (B key : List UInt8) : ∀ k, (addUp B key k).length = B.length
  | 0 => rfl
  | k + 1 => by rw [addUp, length_setBit, length_addUp B key k]
theorem length_addKey (B key : List UInt8) : (addKey B key).length = B.length := length_addUp B key 4
theorem length_addAll (keys : List (List UInt8)) : ∀ B, (addAll B keys).length = B.length := by
  induction keys with
  | nil => intro B; rfl
  | cons k ks ih => intro B; show (addAll (addKey B k) ks).length = _; rw [ih, length_addKey]

/-! Order does not matter, nor how often. -/
theorem getD_setBit (B : List UInt8) (p i : Nat) : (setBit B p).getD i 0 = if i = p / 8 ∧ i < B.length then B.getD i 0 ||| mask p else B.getD i 0 := by
  unfold setBit
  simp only [List.getD_eq_getElem?_getD, List.getElem?_set]
  by_cases h : p / 8 = i
  · subst h
    by_cases hl : p / 8 < B.length
    · simp [hl]
    · simp [hl]
  · rw [if_neg h, if_neg (by omega)]
theorem ext_getD {A B : List UInt8} (hl : A.length = B.length) (h : ∀ i, i < A.length → A.getD i 0 = B.getD i 0) : A = B := by
  apply List.ext_getElem hl
  intro i h1 h2
  have := h i h1
  simpa [List.getD_eq_getElem?_getD, h1, h2] using this
theorem setBit_comm (B : List UInt8) (p q : Nat) : setBit (setBit B p) q = setBit (setBit B q) p := by
  apply ext_getD (by simp [length_setBit])
  intro i hi
  simp only [getD_setBit, length_setBit]
  generalize B.getD i 0 = x
  by_cases h1 : i = p / 8 ∧ i < B.length <;> by_cases h2 : i = q / 8 ∧ i < B.length
  · rw [if_pos h1, if_pos h2, if_pos h2, if_pos h1, UInt8.or_assoc, UInt8.or_comm (mask p), UInt8.or_assoc]
  · rw [if_pos h1, if_neg h2, if_neg h2, if_pos h1]
  · simp only [if_neg h1, if_pos h2]
  · simp only [if_neg h1, if_neg h2]
theorem setBit_twice (B : List UInt8) (p : Nat) : setBit (setBit B p) p = setBit B p := by
  apply ext_getD (by simp [length_setBit])
  intro i hi
  simp only [getD_setBit, length_setBit]
  generalize B.getD i 0 = x
  by_cases h1 : i = p / 8 ∧ i < B.length
  · rw [if_pos h1, if_pos h1, UInt8.or_assoc, UInt8.or_self]
  · rw [if_neg h1, if_neg h1]
def setAll (B : List UInt8) (ps : List Nat) : List UInt8 := ps.foldl setBit B
def places (key : List UInt8) (m : Nat) : List Nat := [place key 0 m, place key 1 m, place key 2 m, place key 3 m]
theorem addKey_eq (B key : List UInt8) : addKey B key = setAll B (places key (8 * B.length)) := rfl
theorem length_setAll (ps : List Nat) : ∀ B, (setAll B ps).length = B.length := by
  induction ps with
  | nil => intro B; rfl
  | cons p ps ih => intro B; show (setAll (setBit B p) ps).length = _; rw [ih, length_setBit]
theorem setAll_setBit (ps : List Nat) (p : Nat) : ∀ B, setAll (setBit B p) ps = setBit (setAll B ps) p := by
  induction ps with
  | nil => intro B; rfl
  | cons q ps ih => intro B; show setAll (setBit (setBit B p) q) ps = _; rw [setBit_comm, ih]; rfl
theorem setAll_comm (ps qs : List Nat) : ∀ B, setAll (setAll B ps) qs = setAll (setAll B qs) ps := by
  induction ps with
  | nil => intro B; rfl
  | cons p ps ih =>
    intro B
    show setAll (setAll (setBit B p) ps) qs = setAll (setBit (setAll B qs) p) ps
    rw [ih, ← setAll_setBit]
theorem setAll_in (ps : List Nat) (p : Nat) (h : p ∈ ps) : ∀ B, setBit (setAll B ps) p = setAll B ps := by
  induction ps with
  | nil => simp at h
  | cons q ps ih =>
    intro B
    show setBit (setAll (setBit B q) ps) p = setAll (setBit B q) ps
    rcases List.mem_cons.1 h with rfl | h
    · rw [← setAll_setBit, setBit_twice]
    · exact ih h _
theorem setAll_sub (qs ps : List Nat) (h : ∀ q ∈ qs, q ∈ ps) (B : List UInt8) : setAll (setAll B ps) qs = setAll B ps := by
  induction qs with
  | nil => rfl
  | cons q qs ih =>
    show setAll (setBit (setAll B ps) q) qs = _
    rw [setAll_in ps q (h q (by simp)), ih fun x hx => h x (by simp [hx])]
theorem addKey_comm (B k l : List UInt8) : addKey (addKey B k) l = addKey (addKey B l) k := by
  simp only [addKey_eq, length_setAll]
  exact setAll_comm _ _ _
theorem addKey_twice (B k : List UInt8) : addKey (addKey B k) k = addKey B k := by
  simp only [addKey_eq, length_setAll]
  exact setAll_sub _ _ (fun _ => id) _
theorem addAll_perm {ks ls : List (List UInt8)} (h : ks.Perm ls) (B : List UInt8) : addAll B ks = addAll B ls :=
  h.foldl_eq' (fun x _ y _ z => addKey_comm z x y) B
def twiceK (ks : List (List UInt8)) : List (List UInt8) := ks.flatMap fun k => [k, k]
theorem addAll_twice (ks : List (List UInt8)) : ∀ B, addAll B (twiceK ks) = addAll B ks := by
  induction ks with
  | nil => intro B; rfl
  | cons k ks ih =>
    intro B
    show addAll (addKey (addKey B k) k) (twiceK ks) = addAll (addKey B k) ks
    rw [addKey_twice, ih]
theorem addAll_append (B : List UInt8) (ks ls : List (List UInt8)) : addAll B (ks ++ ls) = addAll (addAll B ks) ls := List.foldl_append

/-! What was added is there. -/
theorem hasBit_setBit (B : List UInt8) (p : Nat) (h : p / 8 < B.length) : hasBit (setBit B p) p = true := by
  unfold hasBit
  rw [getD_setBit, if_pos ⟨rfl, h⟩]
  have : (B.getD (p / 8) 0 ||| mask p) &&& mask p = mask p := by
    apply UInt8.toNat.inj
    rw [UInt8.toNat_and, UInt8.toNat_or]
    apply Nat.eq_of_testBit_eq
    intro i
    simp only [Nat.testBit_and, Nat.testBit_or]
    cases Nat.testBit (mask p).toNat i <;> simp
  rw [this]
  simp only [bne_iff_ne, ne_eq]
  intro h0
  have := mask_nat p
  rw [h0] at this
  have := Nat.two_pow_pos (p % 8)
  simp at *
  omega
theorem hasBit_of_in (ps : List Nat) (p : Nat) (B : List UInt8) (hp : p ∈ ps) (h : p / 8 < B.length) : hasBit (setAll B ps) p = true := by
  rw [← setAll_in ps p hp]
  exact hasBit_setBit _ _ (by rw [length_setAll]; exact h)
theorem hasKey_iff (B key : List UInt8) : hasKey B key = true ↔ ∀ p ∈ places key (8 * B.length), hasBit B p = true := by
  simp [hasKey, goBit, places, and_assoc]
theorem addAll_eq (ks : List (List UInt8)) : ∀ B, addAll B ks = setAll B (ks.flatMap fun k => places k (8 * B.length)) := by
  induction ks with
  | nil => intro B; rfl
  | cons k ks ih =>
    intro B
    show addAll (addKey B k) ks = _
    rw [ih, length_addKey, addKey_eq]
    simp [setAll, List.foldl_append]
theorem hasKey_addAll (B : List UInt8) (ks : List (List UInt8)) (k : List UInt8) (hk : k ∈ ks) (hB : 0 < B.length) : hasKey (addAll B ks) k = true := by
  rw [hasKey_iff]
  intro p hp
  rw [length_addAll] at hp
  rw [addAll_eq]
  refine hasBit_of_in _ _ _ (List.mem_flatMap.2 ⟨k, hk, hp⟩) ?_
  simp only [places, List.mem_cons, List.not_mem_nil, or_false] at hp
  rcases hp with rfl | rfl | rfl | rfl <;> exact place_byte _ _ _ hB

end Go.Proofs.Ytaoenbjfkahdjaa
