/- The table's All: the function that it hands back tells the entries as they were. -/
import Derived.Test.YtlcifkkgekpicaaMemO
import Derived.Test.YtlcifkkgekpicaaRangeFn
import Derived.OwnWalkIn
import Derived.TacticsInMore
import Derived.LoopNIn
import Derived.LoopIn
namespace Go.Proofs.Ytlcifkkgekpicaa
open Go.RowKit
set_option linter.unusedVariables false

theorem lvl0 {ns : List Nd} {n : Nat} (ht : Tab ns n) : levM 0 (absL ns) = fsts ns := by
  unfold levM fsts
  rw [if_pos ⟨by omega, by omega⟩, List.filter_eq_self.2]
  intro p hp
  obtain ⟨m, hm, rfl⟩ := List.mem_map.1 hp
  have h1 := (ht.ok.full m hm)
  have h2 : (absN m).2 = m.h := rfl
  simp
  omega
set_option maxHeartbeats 1000000 in
theorem all_seq (b hr : Nat) (ns : List Nd) (n : Nat) (w0 w : World) (F : SP) (h : Sat w0 (SkipT b hr ns * F) w) (ht : Tab ns n) (hn : n ≤ 1000) :
    Calls Try.prog 19 #[.pointer (some ⟨b, 0, none⟩)] w fun x w' => ∃ (bx : Nat) (es : List En) (A : Option Addr) (c : Nat), x = .returned (.func (.func 41) #[] #[.pointer (some ⟨bx, 0, none⟩)]) ∧ es.map En.ent = fsts ns ∧ es.length ≤ c ∧ c ≤ maxLen ∧
      Sat w0 (Pt bx 25 #[.slice A es.length c] * (Row 24 4 (.slice A es.length c) es.length (es.flatMap enV) * (OwnE es * (SkipT b hr ns * F)))) w' := by
  have H := Lib.hid h
  have HT := Lib.hid ht
  clear h ht
  go_enter Try.func19, Try.ntmps19
  go_wp2_with (go_at_call 30; (with_reducible refine (levO_any 0 b hr ns n w0 _ _ H.out HT.out hn).mono ?_); rintro x w1 ⟨es, A, c, rfl, he, hc, hm, hs⟩; have HE := Lib.hid he; have HC := Lib.hid hc; have HM := Lib.hid hm; have HS := Lib.hid hs; clear he hc hm hs)
  go_ret
  exact ⟨_, es, A, c, rfl, HE.out.trans (lvl0 HT.out), HC.out, HM.out, HS.out.allocPt _ _⟩
theorem Chg.cellB {w w' : World} (k : Chg (From w.heap.size) w w') {p : Addr} {v : Value} (h : w.cell? p = some v) : w'.cell? p = some v :=
  k.cell h fun hp => absurd hp (Nat.not_le_of_lt (World.block_lt_of_cell? w p h))
theorem RdV.keepB {w w' : World} (k : Chg (From w.heap.size) w w') {A : Option Addr} {xs : List Value} (h : RdV w A xs) : RdV w' A xs := h.chg k fun b o hx e hb => by
  obtain ⟨b', o', e', hlt⟩ := h.lt hx
  rw [e'] at e
  injection e with e
  injection e with e1
  subst e1
  exact absurd hb (Nat.not_le_of_lt hlt)
theorem EnR.keepB {w w' : World} (k : Chg (From w.heap.size) w w') {e : En} (h : EnR w e) : EnR w' e := ⟨RdV.keepB k h.1, RdV.keepB k h.2⟩
attribute [local go_sem] Oper.semAt_some
set_option maxRecDepth 100000 in
set_option maxHeartbeats 2000000 in
/-- The function that All hands back. -/
theorem seq_any (bx : Nat) (EA : Option Addr) (ec : Nat) (es : List En) (w1 W : World) (hbx : w1.cell? ⟨bx, 0, none⟩ = some (.slice EA es.length ec)) (hrd : RdV w1 EA (es.flatMap enV)) (hr : EnsR w1 es) (hc : es.length ≤ ec) (hm : ec ≤ maxLen)
    (hsh : ∀ x ∈ es, x.key.2.2.length ≤ 1000000 ∧ x.value.2.2.length ≤ 1000000) (hn : es.length ≤ 1000) (bn l : Nat) (hbn : w1.heap.size ≤ bn) (hl : w1.heap.size ≤ l) (J : List En → World → Prop) (kW : Chg (From w1.heap.size) w1 W)
    (hJ : ∀ pre A B, J pre A → Chg No A B → J pre B)
    (hY : ∀ pre x A, J pre A → EnR A x ∧ (es.map En.ent)[pre.length]? = some x.ent → YieldAt Fence.wide 10 Try.prog l #[enA x] A fun e B => e = .returned (.bool true) ∧ J (pre ++ [x]) B ∧ Chg (fun k => k = bn ∨ k = l) A B) (h0 : J [] W) :
    CallsIn Fence.wide 11 Try.prog 41 #[.func (.yield l) #[] #[], .pointer (some ⟨bx, 0, none⟩)] W fun e B => (∃ v, e = .returned v) ∧ ∃ xs : List En, xs.map En.ent = es.map En.ent ∧ J xs B := by
  have cb := kW.cellB hbx
  have HRD := Lib.hid hrd
  have HR := Lib.hid hr
  have HSH := Lib.hid hsh
  have HJ := Lib.hid hJ
  have HY := Lib.hid hY
  have H0 := Lib.hid h0
  have HK := Lib.hid kW
  unfold maxLen at hm
  clear hbx hrd hr hsh hJ hY h0 kW
  refine callsIn_of_wp Try.func41 rfl trivial ?_ rfl
  simp only [Try.ntmps41, List.size_toArray, List.length_cons, List.length_nil, Nat.reduceAdd, Nat.reduceSub, Array.replicate_succ, Array.replicate_zero, List.push_toArray, List.append_toArray, List.nil_append, List.cons_append]
  gi_wp2
  gi_loopw [7] (fun i wr => ∃ (k : Nat) (pre : List En), k ≤ es.length ∧ i = .int .i64 k ∧ Hid (pre.map En.ent = (es.take k).map En.ent ∧ J pre wr ∧ Chg (From w1.heap.size) w1 wr)) (fun i _ => es.length - (intOf i).toNat)
  case atStart => exact ⟨0, [], by omega, rfl, by simp, H0.out, HK.out⟩
  case round =>
    obtain ⟨k, pre, hk, rfl, HD⟩ := hrel
    by_cases hlt : k < es.length
    · obtain ⟨eb, eo, rfl, hq⟩ := ents_at HRD.out (by omega)
      obtain ⟨z0, z1, z2, z3⟩ := hq k hlt
      have a0 := HD.out.2.2.cellB z0; have a1 := HD.out.2.2.cellB z1; have a2 := HD.out.2.2.cellB z2; have a3 := HD.out.2.2.cellB z3
      unfold slv' at a0 a1
      clear hq z0 z1 z2 z3
      have hsl := HSH.out _ (List.getElem_mem hlt)
      have HE := Lib.hid (EnR.keepB HD.out.2.2 (HR.out _ (List.getElem_mem hlt)))
      have hs2 := (Sat.start wr).allocPt 24 #[.slice es[k].key.1 es[k].key.2.2.length es[k].key.2.1, .slice es[k].value.1 es[k].value.2.2.length es[k].value.2.1, .int .i64 es[k].seq, .bool es[k].dead]
      have e0 := hs2.cell 0; have e1 := hs2.cell 1; have e2 := hs2.cell 2; have e3 := hs2.cell 3
      have HC2 := Lib.hid hs2.chg
      clear hs2
      have hpl : pre.length = k := by have h1 := congrArg List.length HD.out.1; rw [List.length_map, List.length_map, List.length_take] at h1; omega
      have hent : (es.map En.ent)[pre.length]? = some es[k].ent := by rw [hpl, List.getElem?_map, List.getElem?_eq_getElem hlt]; rfl
      gi_wp2_with (refine ⟨trivial, ?_⟩; gi_at_call 37; refine (callsIn_wide.2 (copied0 es[k] _ (HE.out.new HC2.out) (by omega) (by omega))).mono ?_; rintro x w3 ⟨A, c, B, d, rfl, hs3⟩; unfold enA; obtain ⟨fn, tmps, assign, body, hy, hR⟩ := HY.out pre ⟨(A, c, es[k].key.2.2), (B, d, es[k].value.2.2), es[k].seq, es[k].dead⟩ w3 (HJ.out _ _ _ HD.out.2.1 (HC2.out.tr hs3.chg)) ⟨⟨Sat.row_rdK (h := hs3), Sat.row_rdK (h := hs3.up2)⟩, hent⟩; unfold enA at hy; have HC3 := Lib.hid (HC2.out.tr hs3.chg); clear hs3)
      refine hR.mono ?_
      rintro e w4 ⟨rfl, hJ4, k4⟩
      have HJ4 := Lib.hid hJ4
      have HK4 : Hid (Chg (From w1.heap.size) w1 w4) := (HD.out.2.2.trans HC3.out (fun _ _ h => h.elim)).tr (k4.mono fun i _ h => by
        show w1.heap.size ≤ i
        rcases h with rfl | rfl
        · exact hbn
        · exact hl)
      clear hJ4 k4
      gi_wp2
      go_roundw
      · refine ⟨k + 1, pre ++ [_], by omega, by push_cast; rfl, ?_, HJ4.out, HK4.out⟩
        rw [List.map_append, HD.out.1, List.take_succ_eq_append_getElem hlt, List.map_append]
        rfl
      · simp [intOf]; omega
    · have hke : k = es.length := by omega
      subst hke
      gi_wp2
      go_end0
      exact ⟨⟨_, rfl⟩, pre, by rw [HD.out.1, List.take_length], HD.out.2.1⟩
end Go.Proofs.Ytlcifkkgekpicaa
