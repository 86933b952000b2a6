/- The document's May. -/
import Derived.Test.YtaoenbjfkahdjaaQ22
import Derived.Test.YtaoenbjfkahdjaaQAppG
namespace Go.Proofs.Ytaoenbjfkahdjaa
open Go.RowKit
set_option linter.unusedVariables false
set_option maxRecDepth 100000

set_option maxHeartbeats 8000000 in
theorem rmay_any (A : Option Addr) (c : Nat) (es : List En) (K : Slc) (w : World) (h : RdV w A (es.flatMap enV)) (hr : EnsR w es) (hc : es.length ≤ c) (hm : c ≤ maxLen) (hn : es.length ≤ 65536) (hsh : ∀ e ∈ es, e.key.2.2.length ≤ 140737488355328) (hk : Rd w K.1 K.2.2) (hkl : K.2.2.length ≤ 140737488355328) :
    Calls Try.prog 41 #[.slice A es.length c, .slice K.1 K.2.2.length K.2.1] w (Asked (hasKey (bitsB (es.map En.ent)) K.2.2) w) := by
  obtain ⟨KA, kC, kL⟩ := K
  have HK : Hid (Rd w KA kL) := hk
  have HKl : Hid (kL.length ≤ 140737488355328) := hkl
  have HL := Lib.hid h
  have HR := Lib.hid hr
  have HSh := Lib.hid hsh
  obtain ⟨L, hLe⟩ : ∃ L, L = es.map En.ent := ⟨_, rfl⟩
  have HLe := Lib.hid hLe
  have HLen : Hid (L.length = es.length) := by unfold Hid; rw [hLe, List.length_map]
  rw [← hLe]
  show Calls _ _ #[_, .slice KA kL.length kC] w (Asked (hasKey (bitsB L) kL) w)
  unfold maxLen at hm
  clear h hr hsh hLe hk hkl
  go_enter Try.func41, Try.ntmps41
  go_wp2_with fail
  go_loopw [5, 6] (fun uv iv wr => ∃ i : Nat, i ≤ es.length ∧ iv = .int .i64 (i : Int) ∧ uv = .int .i64 (((unlike L i).length : Nat) : Int) ∧ Hid (Sat w Emp wr)) (fun _ iv _ => es.length - (intOf iv).toNat)
  case atStart => exact ⟨0, by omega, rfl, rfl, Sat.start w⟩
  case round =>
    obtain ⟨i, hi, rfl, rfl, HD⟩ := hrel
    by_cases hlt : i < es.length
    · obtain ⟨lb, lo, rfl, hq⟩ := ents_at HL.out (by omega)
      have hUl := unlike_len L i
      by_cases hi0 : i = 0
      · have HU : Hid (((unlike L (i + 1)).length : Int) = ((unlike L i).length : Int) + 1) := by
          unfold Hid
          conv => lhs; unfold unlike
          rw [HLe.out, map_at hlt]
          simp only
          rw [if_pos hi0, List.length_append]
          simp
        have hic : ((i : Int) == 0) = true := by simp; omega
        clear hi0 hq
        generalize (unlike L i).length = U at *
        go_wp2_with fail
        go_quiet (fail)
        go_wp2_with fail
        go_roundw
        · exact ⟨i + 1, by omega, by push_cast; rfl, congrArg (Value.int IntKind.i64) HU.out.symm, HD.out.drewN _⟩
        · simp [intOf]; omega
      · have hil : i - 1 < es.length := by omega
        have hsub : (i : Int) - 1 = ((i - 1 : Nat) : Int) := by omega
        have z0 := HD.out.chg.cell (hq i hlt).1 id
        have z1 := HD.out.chg.cell (hq (i - 1) hil).1 id
        unfold slv' at z0 z1
        obtain ⟨SA, SB, T, e1, e2, e3, e4⟩ := str_two es[i].key.2.2 es[i - 1].key.2.2
        have s1 := fun n => str_any ((HR.out _ (List.getElem_mem hlt)).1.new (HD.out.chg.drewN n)) es[i].key.2.1
        have s2 := fun n => str_any ((HR.out _ (List.getElem_mem hil)).1.new (HD.out.chg.drewN n)) es[i - 1].key.2.1
        simp only [← e1] at s1
        simp only [← e2] at s2
        have HU : Hid (((unlike L (i + 1)).length : Int) = if T then ((unlike L i).length : Int) else ((unlike L i).length : Int) + 1) := by
          unfold Hid
          conv => lhs; unfold unlike
          rw [HLe.out, map_at hlt]
          simp only
          rw [if_neg hi0, map_at hil]
          simp only
          rw [e4]
          show (((if es[i - 1].key.2.2 = es[i].key.2.2 then _ else _ : List (List UInt8)).length : Int)) = _
          by_cases q : es[i].key.2.2 = es[i - 1].key.2.2
          · rw [if_pos q.symm, decide_eq_true q]; rfl
          · rw [if_neg (fun x => q x.symm), decide_eq_false q, List.length_append]; simp
        have hic : ((i : Int) == 0) = false := by simp; omega
        clear hi0 hq e1 e2 e4
        generalize (unlike L i).length = U at *
        generalize es[i].key = ki at *
        generalize es[i - 1].key = kj at *
        generalize i - 1 = q at *
        cases T
        all_goals
          go_wp2_with fail
          go_quiet (fail)
          go_wp2_with fail
          go_roundw
          · exact ⟨i + 1, by omega, by push_cast; rfl, congrArg (Value.int IntKind.i64) HU.out.symm, HD.out.drewN _⟩
          · simp [intOf]; omega
    · have hie : i = es.length := by omega
      subst hie
      have hul := unlike_len L es.length
      obtain ⟨u, hu⟩ : ∃ u, (unlike L es.length).length = u := ⟨_, rfl⟩
      obtain ⟨nb, hnb⟩ : ∃ nb, nbytes (u : Int) 10 = nb := ⟨_, rfl⟩
      rw [hu] at hul
      have hnbl := (nbytes_le (u : Int) 10 ⟨by omega, by omega, by omega, by omega⟩).2
      rw [hnb] at hnbl
      have HBi : Hid ((bitsB L).length = nb) := by unfold Hid; rw [bitsB_len, HLen.out, hu, hnb]
      rw [hu]
      have Hu := Lib.hid hu; have Hnb := Lib.hid hnb
      have HSz : Hid (∀ W, Calls Try.prog 75 #[.int .i64 (u : Int), .int .i64 10] W fun x w' => x = .returned (.tuple #[.int .i64 (8 * (nb : Int)), .int .i64 0]) ∧ W = w') := fun W => by
        have h9 := refSize_yes (u : Int) 10 W ⟨by omega, by omega, by omega, by omega⟩
        rw [hnb] at h9
        exact h9
      have hmk := make_bytes nb (by omega)
      have hdiv : (8 * (nb : Int)).tdiv 8 = nb := by rw [Int.tdiv_eq_ediv_of_nonneg (by omega)]; omega
      have hdiv2 : 8 * (nb : Int) / 8 = nb := by omega
      clear hu hnb hlt
      go_upto_region 9 with (go_at_call 75; refine (HSz.out _).mono ?_; rintro x wq ⟨rfl, rfl⟩)
      have hs7 := (HD.out.allocPt 5 (noughts nb)).allocPt 130 #[.slice (some ⟨wr.heap.size, 0, none⟩) nb nb]
      rw [World.size_alloc] at hs7
      have hfc : nb = (List.replicate nb (0 : UInt8)).length ∧ nb ≤ (noughts nb).size ∧ ∀ j (hj : j < (List.replicate nb (0 : UInt8)).length), (noughts nb)[j]? = some (bv (List.replicate nb (0 : UInt8))[j]) := by
        refine ⟨by simp, by simp [noughts], fun j hj => ?_⟩
        simp at hj
        simp [noughts, hj]
      have HS7 : Hid (Sat w (FiltP (wr.heap.size + 1) wr.heap.size nb nb (addAll (List.replicate nb 0) (((L.take 0).map (·.key)))) * Emp) _) := Sat.filtI (n := nb) (c := nb) (B := List.replicate nb 0) hfc hs7
      clear hs7 hfc HSz hmk hdiv hdiv2
      go_wp2_with fail
      generalize hW7 : World.alloc (World.alloc wr _) _ = w7 at *
      clear hW7
      generalize wr.heap.size = h at *
      go_loopw [10] (fun iv wx => ∃ j : Nat, j ≤ es.length ∧ iv = .int .i64 (j : Int) ∧ Hid (Sat w (FiltP (h + 1) h nb nb (addAll (List.replicate nb 0) ((L.take j).map (·.key))) * Emp) wx)) (fun iv _ => es.length - (intOf iv).toNat)
      case atStart => exact ⟨0, by omega, rfl, HS7.out⟩
      case round =>
        obtain ⟨j, hj, rfl, HE⟩ := hrel
        by_cases hlt3 : j < es.length
        · obtain ⟨lb, lo, rfl, hq⟩ := ents_at HL.out (by omega)
          have a0 := HE.out.chg.cell (hq j hlt3).1 id
          unfold slv' at a0
          have HRj := Lib.hid (HR.out _ (List.getElem_mem hlt3)).1
          have hkj := HSh.out _ (List.getElem_mem hlt3)
          have HNx : Hid (addAll (List.replicate nb 0) ((L.take (j + 1)).map (·.key)) = addKey (addAll (List.replicate nb 0) ((L.take j).map (·.key))) es[j].key.2.2) := by
            unfold Hid
            have hjL : j < L.length := by rw [HLen.out]; exact hlt3
            have e9 : L[j].key = es[j].key.2.2 := by
              have h9 : L[j]? = some es[j].ent := by rw [HLe.out]; exact map_at hlt3
              rw [List.getElem?_eq_getElem hjL] at h9
              rw [Option.some.inj h9]
              rfl
            rw [List.take_succ_eq_append_getElem hjL, List.map_append, addAll_append, List.map_cons, List.map_nil, e9]
            rfl
          clear hq
          go_wp2_with (go_at_call 76; refine (radd_S HE.out hnbl es[j].key.1 es[j].key.2.1 es[j].key.2.2 (HRj.out.new HE.out.chg) hkj).mono ?_; rintro x w8 ⟨rfl, hs8⟩; rw [← HNx.out] at hs8; have HS8 := Lib.hid hs8; clear hs8)
          go_roundw
          · exact ⟨j + 1, by omega, by push_cast; rfl, HS8.out⟩
          · simp [intOf]; omega
        · have hje : j = es.length := by omega
          subst hje
          have HBits : Hid (addAll (List.replicate nb 0) ((L.take es.length).map (·.key)) = bitsB L) := by
            unfold Hid
            rw [← HLen.out, List.take_length]
            have h9 := bits_keys L
            rw [HLen.out, Hu.out, Hnb.out] at h9
            exact h9
          have hs8 := HE.out
          rw [HBits.out] at hs8
          have HS8 := Lib.hid hs8
          clear hs8 HE
          go_wp2_with (go_at_call 86; refine (refHas_any (h + 1) nb nb kC (some ⟨h, 0, none⟩) KA (bitsB L) kL _ HS8.out.rfilt.head HBi.out.symm HS8.out.rfilt.rd (by rw [HBi.out]; exact hnbl) (HK.out.new HS8.out.chg) HKl.out).mono ?_; rintro x w9 ⟨rfl, q1⟩; have HC9 := Lib.hid (HS8.out.chg.tr q1); clear q1)
          go_ret
          exact ⟨rfl, HC9.out⟩
end Go.Proofs.Ytaoenbjfkahdjaa
