/- What the table tells: within. -/
import Derived.Test.YtlcifkkgekpicaaSkip5
namespace Go.Proofs.Ytlcifkkgekpicaa
open Go.RowKit
set_option linter.unusedVariables false

def inB (tl : List UInt8) (e : Ent) : Bool := decide (tl = []) || decide (Lib.compareBytes e.key tl < 0)
/-- The entries of a level that a bound lets in. -/
def witE (tl : List UInt8) (i : Nat) (s : List Nd) : List Ent := ((s.filter fun n => decide (i < n.v)).map fun n => n.e.ent).takeWhile (inB tl)
theorem witE_none {tl : List UInt8} {i : Nat} {s : List Nd} (h : ∀ n ∈ s, n.v ≤ i) : witE tl i s = [] := by
  unfold witE
  have : s.filter (fun n => decide (i < n.v)) = [] := List.filter_eq_nil_iff.2 fun n hn => by have := h n hn; simp; omega
  rw [this]; rfl
theorem witE_some {tl : List UInt8} {i : Nat} {u t : List Nd} {m : Nd} (hu : ∀ n ∈ u, n.v ≤ i) (hm : i < m.v) : witE tl i (u ++ m :: t) = if inB tl m.e.ent then m.e.ent :: witE tl i t else [] := by
  unfold witE
  have : u.filter (fun n => decide (i < n.v)) = [] := List.filter_eq_nil_iff.2 fun n hn => by have := hu n hn; simp; omega
  rw [List.filter_append, this, List.nil_append, List.filter_cons, if_pos (by simpa using hm), List.map_cons, List.takeWhile_cons]
/-- Entries whose bytes are the holder's own. -/
def OwnE : List En → SP
  | [] => Emp
  | e :: es => Row 5 1 (slv' e.key) e.key.2.2.length (e.key.2.2.map bv) * (Row 5 1 (slv' e.value) e.value.2.2.length (e.value.2.2.map bv) * OwnE es)
theorem ownE_snoc (e : En) : ∀ es : List En, OwnE (es ++ [e]) = Row 5 1 (slv' e.key) e.key.2.2.length (e.key.2.2.map bv) * (Row 5 1 (slv' e.value) e.value.2.2.length (e.value.2.2.map bv) * OwnE es)
  | [] => rfl
  | x :: es => by
    show Row _ _ _ _ _ * (Row _ _ _ _ _ * OwnE (es ++ [e])) = _
    rw [ownE_snoc e es]
    show _ = Row _ _ _ _ _ * (Row _ _ _ _ _ * (Row _ _ _ _ _ * (Row _ _ _ _ _ * OwnE es)))
    ac_rfl
/-- A row of entries in new memory. -/
def ToldE (w : World) (l : List Ent) (x : Ending) (w' : World) : Prop := ∃ (es : List En) (A : Option Addr) (c : Nat), x = .returned (.slice A es.length c) ∧ es.map En.ent = l ∧
  Sat w (Row 24 4 (.slice A es.length c) es.length (es.flatMap enV) * OwnE es) w'
/-- What is asked of the sizes of a table. -/
structure Small (ns : List Nd) : Prop where
  len : ns.length ≤ 1000000
  each : ∀ n ∈ ns, n.e.key.2.2.length ≤ 1000000000 ∧ n.e.value.2.2.length ≤ 1000000000
theorem info_entry : (Try.prog.info? 24).map (fun i => (i.zero, i.size, i.bytes)) = some (some (.agg #[.slice none 0 0, .slice none 0 0, .int .i64 0, .bool false]), 4, 64) := by kernel_rfl
/-- What holds in the rounds. -/
structure Wst (w : World) (ns : List Nd) (tl : List UInt8) (i : Nat) (l : List Ent) (p s : List Nd) (es : List En) (A : Option Addr) (c : Nat) (wr : World) : Prop where
  eq : ns = p ++ s
  told : l = es.map En.ent ++ witE tl i s
  len : es.length ≤ p.length
  sat : Sat w (Row 24 4 (.slice A es.length c) es.length (es.flatMap enV) * OwnE es) wr
set_option maxHeartbeats 2000000 in
theorem within_any (T : Option Addr) (Tc : Nat) (tl : List UInt8) (b hr : Nat) (ns p0 s0 : List Nd) (i : Nat) (w : World) (hto : Rd w T tl) (hv : View w b hr ns) (hok : NOk ns) (hsm : Small ns) (hs : ns = p0 ++ s0) (hi : i < 8) :
    Calls Try.prog 40 #[ptrN (nxt noT s0 i), .int .i64 i, .slice T tl.length Tc] w (ToldE w (witE tl i s0)) := by
  have HV := Lib.hid hv
  have HO := Lib.hid hok
  have HT := Lib.hid hto
  have HS := Lib.hid hsm
  have H0 := Lib.hid hs
  obtain ⟨i0, hi0, hz0, hz1, hz2⟩ := info_parts info_entry
  clear hv hok hto hsm hs
  by_cases h0 : tl = []
  case' pos =>
    have HZ := Lib.hid h0
    rw [show tl.length = 0 by rw [h0]; rfl]
    have h1 : True := trivial
    clear h0
  case' neg =>
    have HZ := Lib.hid h0
    have h1 : ¬ tl.length = 0 := by simpa using h0
    clear h0
  all_goals
    go_enter Try.func40, Try.ntmps40
    go_wp2_with fail
    go_loopw [0, 7] (fun n out wr => ∃ (p s : List Nd) (es : List En) (A : Option Addr) (c : Nat), n = ptrN (nxt noT s i) ∧ out = .slice A es.length c ∧ Hid (Wst w ns tl i (witE tl i s0) p s es A c wr)) (fun n _ _ => rank ns n)
    case atStart => exact ⟨p0, s0, [], none, 0, rfl, rfl, H0.out, rfl, by simp, ((Sat.start w).row_nil _ 4).of (by rfl)⟩
    case round =>
      obtain ⟨p, s, es, A, c, rfl, rfl, HD⟩ := hrel
      rcases nxt_cases s i with ⟨e1, hlow⟩ | ⟨u, m, t, e2, e1, hm, hu⟩
      · have e3 : ptrN (nxt noT s i) = .pointer none := by rw [e1]; rfl
        rw [e3]
        have ht := HD.out.told
        rw [witE_none hlow, List.append_nil] at ht
        have HTl := Lib.hid ht
        clear e1 e3 hlow ht
        go_wp2_with fail
        go_ret
        exact ⟨es, A, c, rfl, HTl.out.symm, HD.out.sat⟩
      · have e3 : ptrN (nxt noT s i) = .pointer (some ⟨m.a, 0, none⟩) := by rw [e1]; rfl
        rw [e3]
        have hv2 := HV.out.new HD.out.sat.chg
        have hsp := HD.out.eq
        obtain ⟨n0, n1, n2, n3, n4, n5, n6⟩ := hv2.node (p ++ u) m t (by rw [hsp, e2]; simp)
        have n7 := n5 i (by have := HO.out.full m (by rw [hsp, e2]; simp); omega)
        have hmi : i < m.h := by have := HO.out.full m (by rw [hsp, e2]; simp); omega
        unfold slv' at n1 n2
        have HN := Lib.hid n6
        have HTw := Lib.hid (HT.out.new HD.out.sat.chg)
        have hdup := Lib.hid hv2.nodup
        have hml := HS.out.each m (by rw [hsp, e2]; simp)
        have hk2 : m.e.key.2.2.length ≤ 140737488355328 := by omega
        have hv3 : m.e.value.2.2.length ≤ 140737488355328 := by omega
        have hlen : es.length ≤ 1000000 := by have h1 := HD.out.len; have h2 := HS.out.len; rw [hsp, List.length_append] at h2; omega
        have ht := HD.out.told
        rw [e2, witE_some hu hm] at ht
        have HTl := Lib.hid ht
        have E1 := Lib.hid hsp
        have E2 := Lib.hid e2
        clear ht e1 e3 e2 hsp n5 n6 hv2 hml hm hu
        have hin : inB tl m.e.ent = (decide (tl = []) || decide (Lib.compareBytes m.e.key.2.2 tl < 0)) := rfl
        go_wp2_with (first
          | (go_at_call 49; refine (cmpB_any m.e.key (T, Tc, tl) _ HN.out.1 HTw.out).mono ?_; rintro x wx ⟨rfl, rfl⟩)
          | (go_at_call 37; refine (copied_any m.e w _ _ HD.out.sat HN.out hk2 hv3).mono ?_; rintro x w6 ⟨⟨A2, c2, B2, d2, rfl, hs6⟩, k6⟩; have HS6 := Lib.hid hs6; clear hs6 k6; simp only [enA])
          | (at_builtin; refine wpList_appS rfl (.tmp 33) (.tmp 39) 25 rfl 24 i0 _ 4 64 Try.underlying25 hi0 hz0 hz1 hz2 rfl (by decide) (.slice A es.length c) es.length (es.flatMap enV) rfl w _ (by exact (HS6.out.alloc' _).up3) (some ⟨w6.heap.size, 0, none⟩) 1 1 [.slice A2 m.e.key.2.2.length c2, .slice B2 m.e.value.2.2.length d2, .int .i64 m.e.seq, .bool m.e.dead] rfl (lit_rdv _ _ _) rfl (by intro u hu; simp at hu; rcases hu with rfl | rfl | rfl | rfl <;> rfl) (by unfold maxLen; omega) (by omega) ?_; intro A3 c3 w7 hs7; have HS7 := Lib.hid hs7; obtain ⟨r0, _, _, _, _, r5, _⟩ := (HV.out.new hs7.chg).node (p ++ u) m t (by rw [E1.out, E2.out]; simp); have r7 := r5 i hmi; clear r5 hs7))
        all_goals first
          | (go_ret
             have hB : inB tl m.e.ent = false := by
               have h2 := HZ.out
               rw [hin]
               simp [h2]
               omega
             refine ⟨es, A, c, rfl, ?_, HD.out.sat⟩
             rw [HTl.out, hB]; simp)
          | (refine ⟨⟨p ++ (u ++ [m]), t, es ++ [⟨(A2, c2, m.e.key.2.2), (B2, d2, m.e.value.2.2), m.e.seq, m.e.dead⟩], A3, c3, rfl, by rw [List.length_append]; rfl, ?_⟩, ?_⟩
             · have hB : inB tl m.e.ent = true := by
                 rw [hin]
                 have h2 := HZ.out
                 simp [h2]
                 all_goals (rcases ‹((tl.length : Int) == 0) = true ∨ Lib.compareBytes m.e.key.2.2 tl < 0› with q | q; exact absurd (by simpa using q) h2; exact q)
               refine ⟨by rw [E1.out, E2.out]; simp, ?_, ?_, ?_⟩
               · rw [HTl.out, hB, if_pos rfl, List.map_append, List.append_assoc]; rfl
               · have := HD.out.len
                 simp only [List.length_append, List.length_cons, List.length_nil]; omega
               · refine HS7.out.of ?_
                 rw [ownE_snoc, List.flatMap_append, List.length_append]
                 rfl
             · have r1 := rank_at (p := p ++ u) (s := t) (m := m) hdup.out (by rw [E1.out, E2.out]; simp)
               have r2 := rank_nxt (p := p ++ (u ++ [m])) (s := t) (i := i) hdup.out (by rw [E1.out, E2.out]; simp)
               omega)
end Go.Proofs.Ytlcifkkgekpicaa
