/- Joined, as they were built one by one: TabRow. -/
import Derived.Test.YtaoenbjfkahdjaaQ12
import Derived.Test.YtaoenbjfkahdjaaQ13
namespace Go.Proofs.Ytaoenbjfkahdjaa
open Go.RowKit
set_option linter.unusedVariables false
set_option maxRecDepth 100000

theorem cutN_any (A : Option Addr) (c : Nat) (l m : List UInt8) (n : Nat) (z : Int) (hz : z = n) (hm : m = l.take n) (w0 w : World) (S : SP) (h : Sat w0 S w) (hc : l.length ≤ c) :
    Calls Try.prog 44 #[.slice A l.length c, .int .i64 z] w fun e w' => e = .returned (.slice A m.length c) ∧ Sat w0 S w' := by
  subst hm; subst hz
  have HS := Lib.hid h
  clear h
  by_cases h : n < l.length
  · have HL : Hid ((l.take n).length = n) := by unfold Hid; rw [List.length_take]; omega
    rw [HL.out]
    have h2 : (n : Int) ≤ c := by omega
    have h3 : (n : Int) < l.length := by omega
    have h4 : n ≤ c := by omega
    go_enter Try.func44, Try.ntmps44
    go_wp2
    go_ret
    exact ⟨rfl, HS.out⟩
  · have HL : Hid ((l.take n).length = l.length) := by unfold Hid; rw [List.length_take]; omega
    rw [HL.out]
    have h3 : ¬ (n : Int) < l.length := by omega
    go_enter Try.func44, Try.ntmps44
    go_wp2
    go_ret
    exact ⟨rfl, HS.out⟩
/-- What holds in the rounds. -/
structure Rwt (w : World) (r : Nat) (L : List Ent) (k : Nat) (es : List En) (hs : List Nat) (wr : World) : Prop where
  len : es.length = hs.length
  few : es.length ≤ k
  abs : absR es hs = rowP (L.take k)
  cap : ∀ y ∈ es, CapE y
  sat : Sat w (RTab r es hs * Emp) wr
/-- Put, with what is known of the row. -/
theorem rputW {w W : World} {S : SP} (r k : Nat) (L : List Ent) (es : List En) (hs : List Nat) (x : En) (hkL : k < L.length) (hx : x.ent = cut7 L[k]) (h : Sat w (RTab r es hs * S) W) (h1 : es.length = hs.length) (h2 : es.length ≤ k) (h3 : absR es hs = rowP (L.take k)) (h4 : ∀ y ∈ es, CapE y) (hk : k ≤ 1000) (hr : EnR W x)
    (hkl : x.key.2.2.length ≤ 1000000000) (hvl : x.value.2.2.length ≤ 1000000000) :
    Calls Try.prog 45 #[.pointer (some ⟨r, 0, none⟩), .agg #[.slice x.key.1 x.key.2.2.length x.key.2.1, .slice x.value.1 x.value.2.2.length x.value.2.1, .int .i64 x.seq, .bool x.dead], .int .i64 1] W fun y w' => ∃ (z : Int) (es' : List En) (hs' : List Nat), y = .returned (.int .i64 z) ∧ es'.length = hs'.length ∧ es'.length ≤ k + 1 ∧ absR es' hs' = rowP (L.take (k + 1)) ∧ (∀ y ∈ es', CapE y) ∧ Sat w (RTab r es' hs' * S) w' := by
  refine (rput_any r es hs 1 x w W S h h1 (by omega) hr hkl hvl (by omega)).mono ?_
  rintro y w' ⟨es', hs', rfl, e1, e2, e3, e4, e5⟩
  refine ⟨_, es', hs', rfl, e1, by omega, ?_, fun y hy => ?_, e5⟩
  · rw [e3, rowP_succ hkL, h3, hx]
  · rcases e4 y hy with q | q
    · exact h4 y q
    · exact q.2
/-- A row of entries that can be laid. -/
def RowIn (L : List Ent) (w : World) (x : Ending) (w' : World) : Prop := ∃ (es : List En) (A : Option Addr) (c : Nat), x = .returned (.slice A es.length c) ∧ es.map En.ent = L ∧ es.length ≤ c ∧ c ≤ maxLen ∧ RdV w' A (es.flatMap enV) ∧ EnsR w' es ∧ (∀ y ∈ es, CapE y) ∧ Chg No w w'
theorem Rwt.done {w wr : World} {r k : Nat} {L : List Ent} {es : List En} {hs : List Nat} (h : Rwt w r L k es hs wr) : ∃ (A : Option Addr) (c : Nat), wr.cell? ⟨r, 0, none⟩ = some (.slice A es.length c) ∧ ∀ L', L' = (rowP (L.take k)).map (·.1) → RowIn L' w (.returned (.slice A es.length c)) wr := by
  obtain ⟨vL, vH, h0⟩ := h.sat.rtab
  obtain ⟨LA, lc, rfl, hl1, hl2, hl3⟩ := ((h0.of (rtab_d ..)).up2).row_form
  refine ⟨LA, lc, h0.rtabL, fun L' hL => ⟨es, LA, lc, rfl, ?_, hl1, hl2, h0.rtabRd, fun x hx => h0.rtabEnt hx, h.cap, h.sat.chg⟩⟩
  rw [hL, ← h.abs, absR_fst h.len]
set_option maxHeartbeats 4000000 in
theorem row7_any (A : Option Addr) (c : Nat) (l : List En) (w : World) (h : EnsIn w A c l) :
    Calls Try.prog 10 #[.slice A l.length c] w (RowIn (rowL (l.map En.ent)) w) := by
  obtain ⟨hc1, hc2, hl1, hl2, hl3⟩ := h
  have HL := Lib.hid hl1
  have HI := Lib.hid hl3
  have hll : l.length ≤ 2199023255552 := by omega
  obtain ⟨L, hL⟩ : ∃ L, L = l.map En.ent := ⟨_, rfl⟩
  have HLl : Hid (L.length = l.length) := by unfold Hid; rw [hL]; simp
  have HLi : Hid (∀ i (h : i < L.length) (h' : i < l.length), L[i] = l[i].ent) := by intro i h h'; subst hL; simp
  rw [← hL]
  have hs0 := (Sat.start w).allocPt 83 #[.slice none 0 0, .slice none 0 0]
  have hs1 : Sat w (RTab w.heap.size [] [] * Emp) (w.alloc (.cells #[.slice none 0 0, .slice none 0 0] 83)) := by
    have h1 := (((hs0.row_nil 34 4).row_nil 3 1).rolNil [] (by simp))
    refine Sat.rtabI (vL := .slice none 0 0) (vH := .slice none 0 0) (h1.of ?_)
    rw [rtab_d]
    show RoL [] * (Row 3 1 _ 0 [] * (Row 34 4 _ 0 [] * (Pt _ _ _ * Emp))) = Pt _ _ _ * (Row 34 4 _ 0 [] * (Row 3 1 _ 0 [] * (RoL [] * Emp)))
    ac_rfl
  have HS1 := Lib.hid hs1
  clear hl1 hl3 hL hs0 hs1 hl2
  go_enter Try.func10, Try.ntmps10
  go_wp2_with fail
  generalize w.heap.size = r at *
  go_loopw [4] (fun i wr => ∃ (k : Nat) (es : List En) (hs : List Nat), k ≤ 60 ∧ k ≤ l.length ∧ i = .int .i64 k ∧ Hid (Rwt w r L k es hs wr)) (fun i _ => 60 - (intOf i).toNat)
  case atStart => exact ⟨0, [], [], by omega, by omega, rfl, rfl, by simp, rfl, by simp, HS1.out⟩
  case round =>
    obtain ⟨k, es, hs, hk60, hkl, rfl, HD⟩ := hrel
    by_cases hx : k < l.length ∧ k < 60
    · obtain ⟨hlt, h60⟩ := hx
      obtain ⟨lb, lo, rfl, hq⟩ := ents_at HL.out (by omega)
      obtain ⟨z0, z1, z2, z3⟩ := hq k hlt
      have a0 := HD.out.sat.chg.cell z0 id; have a1 := HD.out.sat.chg.cell z1 id; have a2 := HD.out.sat.chg.cell z2 id; have a3 := HD.out.sat.chg.cell z3 id
      unfold slv' at a0 a1
      have HE := Lib.hid (HI.out l[k] (List.getElem_mem _))
      have hkL : k < L.length := by rw [HLl.out]; exact hlt
      have HLk := Lib.hid (HLi.out k hkL hlt)
      obtain ⟨⟨⟨kA, kc, kl⟩, ⟨vA, vc, vl⟩, sq, dd⟩, he⟩ : ∃ e, e = l[k] := ⟨_, rfl⟩
      rw [← he] at a0 a1 a2 a3 HE HLk
      have HEi : -9223372036854775808 ≤ sq ∧ sq ≤ 9223372036854775807 := HE.out.s
      have hkc : kl.length ≤ kc := HE.out.k2
      have hvc : vl.length ≤ vc := HE.out.v2
      obtain ⟨kl', hk'⟩ : ∃ m, m = kl.take 128 := ⟨_, rfl⟩
      obtain ⟨vl', hv'⟩ : ∃ m, m = vl.take 300 := ⟨_, rfl⟩
      have HK' := Lib.hid hk'
      have HV' := Lib.hid hv'
      have hkl' : kl'.length ≤ 128 := by rw [hk', List.length_take]; omega
      have hvl' : vl'.length ≤ 300 := by rw [hv', List.length_take]; omega
      have hs2 := HD.out.sat.allocPt 34 #[.slice kA kl.length kc, .slice vA vl.length vc, .int .i64 sq, .bool dd]
      have HS2 := Lib.hid hs2
      clear hq z0 z1 z2 z3 he hk' hv' hs2
      go_upto_region 6 with fail
      obtain ⟨E, hE⟩ : ∃ E, wr.heap.size = E := ⟨_, rfl⟩
      obtain ⟨W2, hW2⟩ : ∃ W2, wr.alloc (.cells #[.slice kA kl.length kc, .slice vA vl.length vc, .int .i64 sq, .bool dd] 34) = W2 := ⟨_, rfl⟩
      rw [hW2] at HS2 ⊢
      rw [hE] at HS2 ⊢
      clear hW2 hE
      have c0 := HS2.out.cell 0; have c1 := HS2.out.cell 1; have c2 := HS2.out.cell 2; have c3 := HS2.out.cell 3
      have f0 := HS2.out.frozen 0; have f1 := HS2.out.frozen 1
      go_region_law (first
        | (go_simp; go_at_call 44; (with_reducible refine (cutN_any kA kc kl kl' 128 128 rfl HK'.out w _ _ HS2.out.drew hkc).mono ?_); rintro x w3 ⟨rfl, hs3⟩; have HS3 := Lib.hid hs3; have c0 := hs3.cell 0; have c1 := hs3.cell 1; have c2 := hs3.cell 2; have c3 := hs3.cell 3; have f0 := hs3.frozen 0; have f1 := hs3.frozen 1; clear hs3)
        | (go_simp; go_at_call 44; (with_reducible refine (cutN_any vA vc vl vl' 300 300 rfl HV'.out w _ _ HS3.out hvc).mono ?_); rintro x w4 ⟨rfl, hs4⟩; have HS4 := Lib.hid hs4; have c0 := hs4.cell 0; have c1 := hs4.cell 1; have c2 := hs4.cell 2; have c3 := hs4.cell 3; have f0 := hs4.frozen 0; have f1 := hs4.frozen 1; clear hs4))
      all_goals
        have h5 := (HS4.out.set 0 (.slice kA kl'.length kc)).set 1 (.slice vA vl'.length vc)
        clear f0 f1 c0 c1 c2 c3
        revert h5
        generalize World.setCell _ _ _ = W5
        intro h5
        have HS5 := Lib.hid h5
        have d0 := h5.cell 0; have d1 := h5.cell 1; have d2 := h5.cell 2; have d3 := h5.cell 3
        have f0 := h5.frozen 0; have f1 := h5.frozen 1; have f2 := h5.frozen 2
        clear h5
        have HRk : Hid (Rd w kA kl') := by have := HE.out.r.1.take 128; unfold Hid; rw [HK'.out]; exact this
        have HRv : Hid (Rd w vA vl') := by have := HE.out.r.2.take 300; unfold Hid; rw [HV'.out]; exact this
        have HCut : Hid (cut7 L[k] = ⟨kl', if dd then [] else vl', if sq < 0 then -(sq + 1) else sq, dd⟩) := by
          unfold Hid
          rw [HLk.out, HK'.out, HV'.out]
          rfl
        by_cases hneg : sq < 0
        · have hw1 : IntKind.i64.wrap (sq + 1) = sq + 1 := by rw [IntKind.wrap_i64]; omega
          have hw2 : IntKind.i64.wrap (-(sq + 1)) = -(sq + 1) := by rw [IntKind.wrap_i64]; omega
          have hsq : Hid ((if sq < 0 then -(sq + 1) else sq) = -(sq + 1)) := if_pos hneg
          cases dd
          · have HS7 := Lib.hid (HS5.out.set 2 (.int .i64 (-(sq + 1))))
            have HX : Hid (En.ent ⟨(kA, kc, kl'), (vA, vc, vl'), (-(sq + 1)), false⟩ = cut7 L[k]) := by unfold Hid; rw [HCut.out, hsq.out]; rfl
            have HRx : Hid (EnR _ ⟨(kA, kc, kl'), (vA, vc, vl'), (-(sq + 1)), false⟩) := ⟨HRk.out.new HS7.out.chg, HRv.out.new HS7.out.chg⟩
            have hvx : vl'.length ≤ 1000000000 := by omega
            have hkx : kl'.length ≤ 1000000000 := by omega
            have hk1 : k ≤ 1000 := by omega
            go_wp2_with (go_at_call 45; (with_reducible refine (rputW r k L es hs ⟨(kA, kc, kl'), (vA, vc, vl'), (-(sq + 1)), false⟩ hkL HX.out HS7.out.up2 HD.out.len HD.out.few HD.out.abs HD.out.cap hk1 HRx.out hkx hvx).mono ?_); rintro y w6 ⟨z, es', hs', rfl, e1, e2, e3, e4, hs6⟩; have HS6 := Lib.hid hs6; have HE3 := Lib.hid e3; have HE4 := Lib.hid e4; clear hs6 e3 e4)
            go_roundw
            · exact ⟨k + 1, es', hs', by omega, by omega, by push_cast; rfl, e1, e2, HE3.out, HE4.out, HS6.out.up2.right⟩
            · simp [intOf]; omega
          · have HS7 := Lib.hid ((HS5.out.set 1 (.slice none 0 0)).set 2 (.int .i64 (-(sq + 1))))
            have HX : Hid (En.ent ⟨(kA, kc, kl'), (none, 0, []), (-(sq + 1)), true⟩ = cut7 L[k]) := by unfold Hid; rw [HCut.out, hsq.out]; rfl
            have HRx : Hid (EnR _ ⟨(kA, kc, kl'), (none, 0, []), (-(sq + 1)), true⟩) := ⟨HRk.out.new HS7.out.chg, Rd.nil _ _⟩
            have hvx : 0 ≤ 1000000000 := by omega
            have hkx : kl'.length ≤ 1000000000 := by omega
            have hk1 : k ≤ 1000 := by omega
            have hput : Calls _ _ #[_, .agg #[.slice kA kl'.length kc, .slice none 0 0, .int .i64 (-(sq + 1)), .bool true], _] _ _ := rputW r k L es hs ⟨(kA, kc, kl'), (none, 0, []), (-(sq + 1)), true⟩ hkL HX.out HS7.out.up2 HD.out.len HD.out.few HD.out.abs HD.out.cap hk1 HRx.out hkx hvx
            have HPut := Lib.hid hput
            clear hput
            go_wp2_with (go_at_call 45; (with_reducible refine HPut.out.mono ?_); rintro y w6 ⟨z, es', hs', rfl, e1, e2, e3, e4, hs6⟩; have HS6 := Lib.hid hs6; have HE3 := Lib.hid e3; have HE4 := Lib.hid e4; clear hs6 e3 e4)
            go_roundw
            · exact ⟨k + 1, es', hs', by omega, by omega, by push_cast; rfl, e1, e2, HE3.out, HE4.out, HS6.out.up2.right⟩
            · simp [intOf]; omega
        · have hsq : Hid ((if sq < 0 then -(sq + 1) else sq) = sq) := if_neg hneg
          cases dd
          · have HS7 := Lib.hid HS5.out
            have HX : Hid (En.ent ⟨(kA, kc, kl'), (vA, vc, vl'), sq, false⟩ = cut7 L[k]) := by unfold Hid; rw [HCut.out, hsq.out]; rfl
            have HRx : Hid (EnR _ ⟨(kA, kc, kl'), (vA, vc, vl'), sq, false⟩) := ⟨HRk.out.new HS7.out.chg, HRv.out.new HS7.out.chg⟩
            have hvx : vl'.length ≤ 1000000000 := by omega
            have hkx : kl'.length ≤ 1000000000 := by omega
            have hk1 : k ≤ 1000 := by omega
            go_wp2_with (go_at_call 45; (with_reducible refine (rputW r k L es hs ⟨(kA, kc, kl'), (vA, vc, vl'), sq, false⟩ hkL HX.out HS7.out.up2 HD.out.len HD.out.few HD.out.abs HD.out.cap hk1 HRx.out hkx hvx).mono ?_); rintro y w6 ⟨z, es', hs', rfl, e1, e2, e3, e4, hs6⟩; have HS6 := Lib.hid hs6; have HE3 := Lib.hid e3; have HE4 := Lib.hid e4; clear hs6 e3 e4)
            go_roundw
            · exact ⟨k + 1, es', hs', by omega, by omega, by push_cast; rfl, e1, e2, HE3.out, HE4.out, HS6.out.up2.right⟩
            · simp [intOf]; omega
          · have HS7 := Lib.hid (HS5.out.set 1 (.slice none 0 0))
            have HX : Hid (En.ent ⟨(kA, kc, kl'), (none, 0, []), sq, true⟩ = cut7 L[k]) := by unfold Hid; rw [HCut.out, hsq.out]; rfl
            have HRx : Hid (EnR _ ⟨(kA, kc, kl'), (none, 0, []), sq, true⟩) := ⟨HRk.out.new HS7.out.chg, Rd.nil _ _⟩
            have hvx : 0 ≤ 1000000000 := by omega
            have hkx : kl'.length ≤ 1000000000 := by omega
            have hk1 : k ≤ 1000 := by omega
            have hput : Calls _ _ #[_, .agg #[.slice kA kl'.length kc, .slice none 0 0, .int .i64 sq, .bool true], _] _ _ := rputW r k L es hs ⟨(kA, kc, kl'), (none, 0, []), sq, true⟩ hkL HX.out HS7.out.up2 HD.out.len HD.out.few HD.out.abs HD.out.cap hk1 HRx.out hkx hvx
            have HPut := Lib.hid hput
            clear hput
            go_wp2_with (go_at_call 45; (with_reducible refine HPut.out.mono ?_); rintro y w6 ⟨z, es', hs', rfl, e1, e2, e3, e4, hs6⟩; have HS6 := Lib.hid hs6; have HE3 := Lib.hid e3; have HE4 := Lib.hid e4; clear hs6 e3 e4)
            go_roundw
            · exact ⟨k + 1, es', hs', by omega, by omega, by push_cast; rfl, e1, e2, HE3.out, HE4.out, HS6.out.up2.right⟩
            · simp [intOf]; omega
    · have hor : (l.length ≤ k) ∨ (k < l.length ∧ 60 ≤ k) := by omega
      have HLe : Hid (rowL L = (rowP (L.take k)).map (·.1)) := by
        unfold Hid rowL
        rcases Nat.lt_or_ge k 60 with q | q
        · rw [List.take_of_length_le (by rw [HLl.out]; omega), List.take_of_length_le (i := k) (by rw [HLl.out]; omega)]
        · rw [show k = 60 by omega]
      obtain ⟨A2, c2, hcell, hd⟩ := HD.out.done
      have HDn := Lib.hid hd
      clear hx hd
      rcases hor with hx | ⟨hx, hx2⟩
      all_goals
        go_wp2_with fail
        go_ret
        exact HDn.out _ HLe.out
end Go.Proofs.Ytaoenbjfkahdjaa
