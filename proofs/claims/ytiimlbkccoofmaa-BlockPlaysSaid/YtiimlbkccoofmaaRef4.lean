/- The document's disk: On, Read. -/
import Derived.Test.YtiimlbkccoofmaaRef3
namespace Go.Proofs.Ytiimlbkccoofmaa
open Go.RowKit
set_option linter.unusedVariables false

/-- The blocks behind a crash. -/
def onR (keep : List Bool) (torn bytes : Int) (cs : List (Slc × Bool)) (x : (Nat × Slc) × Nat) : List (Slc × Bool) :=
  if tornB torn bytes x.2 then cs.set x.1.1 ((cs.getD x.1.1 ((none, 0, []), false)).1, true) else if keepB keep x.2 then layC cs x.1 else cs
theorem on_onR (keep : List Bool) (torn bytes : Int) : ∀ (xs : List ((Nat × Slc) × Nat)) (cs : List (Slc × Bool)), (xs.foldl (onR keep torn bytes) cs).map rcell =
    (xs.map fun x => ((x.1.1, x.1.2.2.2), x.2)).foldl (onStep keep torn bytes) (cs.map rcell)
  | [], cs => rfl
  | x :: xs, cs => by
    rw [List.foldl_cons, on_onR keep torn bytes xs, List.map_cons, List.foldl_cons]
    congr 1
    unfold onR onStep
    dsimp only
    split
    · rw [List.map_set]; rfl
    · split
      · exact layR cs x.1
      · rfl
set_option maxHeartbeats 2000000 in
theorem rOn_any (r : Nat) (D : Dk) (Kp : Option Addr) (kc : Nat) (keep : List Bool) (torn bytes : Int) (w0 w : World) (F : SP) (h : Sat w0 (RDisk r D * (Ro Kp (keep.map Value.bool) * F)) w) (hw2 : D.pend.length ≤ 1000000000) (hkc : keep.length ≤ 9223372036854775807) :
    Calls Try.prog 41 #[.pointer (some ⟨r, 0, none⟩), .slice Kp keep.length kc, .int .i64 torn, .int .i64 bytes] w fun e w' => e = .returned (.tuple #[]) ∧ Sat w0 (RDisk r (D.on keep torn bytes) * (Ro Kp (keep.map Value.bool) * F)) w' := by
  have HH := Lib.hid h
  obtain ⟨vs, vt, vp, cs, ps, hr, hs⟩ := h.rdisk
  have hc5 := hs.rhead5
  by_cases ho : D.off = true
  · have HP : Hid (D.on keep torn bytes = ⟨onAll keep torn bytes D.cells D.pend, [], 0, D.writes, false⟩) := by unfold Hid Dk.on; rw [if_pos ho]
    rw [ho] at hc5
    have hpl : D.pend.length = ps.length := by rw [hr.pend]; simp
    rw [hpl] at hw2
    obtain ⟨_, _, B1, b1, A1, c1, _, rfl, rfl, _, _, hle, _, _, hmx⟩ := hs.rvals
    unfold maxLen at hmx
    have HS := Lib.hid hs
    have HR := Lib.hid hr
    clear ho hr hs h hpl
    go_enter Try.func41, Try.ntmps41
    go_wp2_with fail
    go_loopw [8] (fun i wr => ∃ k : Nat, k ≤ ps.length ∧ i = .int .i64 k ∧ Hid (RCok cs ((ps.zipIdx.take k).foldl (onR keep torn bytes) cs) ∧ Sat w0 (RDiskC r vs (.slice B1 cs.length b1) (.slice A1 ps.length c1) ((ps.zipIdx.take k).foldl (onR keep torn bytes) cs) ps D.armed D.writes D.off * (Ro Kp (keep.map Value.bool) * F)) wr)) (fun i _ => ps.length - (intOf i).toNat)
    case atStart => exact ⟨0, by omega, rfl, ⟨rfl, HR.out.fitc⟩, HS.out⟩
    case round =>
      obtain ⟨k, hk, rfl, HD⟩ := hrel
      have p2 := HD.out.2.rhead2
      by_cases hlt : k < ps.length
      · obtain ⟨g, rfl, q0, q1⟩ := HD.out.2.rPendAt hlt
        have HF := Lib.hid (HR.out.fitp ps[k] (List.getElem_mem hlt))
        have HT : Hid ((ps.zipIdx.take (k + 1)).foldl (onR keep torn bytes) cs = onR keep torn bytes ((ps.zipIdx.take k).foldl (onR keep torn bytes) cs) (ps[k], k)) := by
          rw [zip_take ps k hlt, List.foldl_append]; rfl
        have HM := Lib.hid (List.getElem_mem hlt)
        generalize ps[k] = p at *
        obtain ⟨a, s⟩ := p
        simp only [slv] at q0 q1
        generalize (ps.zipIdx.take k).foldl (onR keep torn bytes) cs = cs1 at *
        have hkl : (k : Int) < ps.length := by omega
        have hki : (k : Int) ≤ 1000000000 := by omega
        have hat : a < cs1.length := by rw [HD.out.1.len]; exact HF.out.2
        have hmost : cs1.length ≤ 65536 := by rw [HD.out.1.len]; exact HR.out.most
        have HLc := Lib.hid HD.out.1.len
        go_upto_region 4 with fail
        go_cut [33] (fun s wx => s = .bool (tornB torn bytes k) ∧ Hid (wx = wr))
        case first =>
          by_cases g1 : (k : Int) = torn
          · have g1' : ((k : Int) == torn) = true := by rw [beq_iff_eq]; exact g1
            by_cases g2 : 1 ≤ bytes
            · by_cases g3 : bytes < 512
              · have e : tornB torn bytes k = true := by unfold tornB; exact decide_eq_true ⟨g1, g2, g3⟩
                have E := Lib.hid e
                clear e g1
                go_wp2_with fail
                go_meet
                exact ⟨by rw [E.out], rfl⟩
              · have e : tornB torn bytes k = false := by unfold tornB; exact decide_eq_false fun h => g3 h.2.2
                have E := Lib.hid e
                clear e g1
                go_wp2_with fail
                go_meet
                exact ⟨by rw [E.out], rfl⟩
            · have e : tornB torn bytes k = false := by unfold tornB; exact decide_eq_false fun h => g2 h.2.1
              have E := Lib.hid e
              clear e g1
              go_wp2_with fail
              go_meet
              exact ⟨by rw [E.out], rfl⟩
          · have g1' : ((k : Int) == torn) = false := by rw [beq_eq_false_iff_ne]; exact g1
            have e : tornB torn bytes k = false := by unfold tornB; exact decide_eq_false fun h => g1 h.1
            have E := Lib.hid e
            clear e g1
            go_wp2_with fail
            go_meet
            exact ⟨by rw [E.out], rfl⟩
        case rest =>
          obtain ⟨rfl, HW⟩ := hcut
          have hw := HW.out
          subst hw
          cases ht : tornB torn bytes k with
          | true =>
            have HTT := Lib.hid ht
            clear ht
            obtain ⟨g3, c3, hv3, hs3, f3, q3⟩ := HD.out.2.rTorn hat true
            rw [HLc.out] at hv3
            injection hv3 with hv3 _ hv4
            subst hv3; subst hv4
            have p1 := HD.out.2.rhead1
            have HS3 := Lib.hid hs3
            have hat2 : (a : Int) < cs.length := by have := HLc.out; omega
            clear hs3
            go_wp2_with fail
            go_region
            go_wp2_with fail
            go_roundw
            case rel =>
              refine ⟨k + 1, by omega, by go_num, ?_⟩
              rw [HT.out, onR]
              dsimp only
              rw [if_pos HTT.out, List.getD_eq_getElem?_getD, List.getElem?_eq_getElem hat]
              exact ⟨HD.out.1.put (by exact HD.out.1.fitc cs1[a] (List.getElem_mem hat)), HS3.out.drew⟩
            case measure => simp [intOf]; omega
          | false =>
            have HTT := Lib.hid ht
            clear ht
            have HL := Lib.hid (rLay_any r vs _ _ cs1 ps D.armed D.writes D.off a s w0 wc _ HD.out.2 hat hmost (List.mem_map_of_mem (f := Prod.snd) HM.out))
            by_cases g1 : k < keep.length
            · obtain ⟨bk, ok, rfl, hck⟩ := HD.out.2.up2.rdv.get (j := k) (by simpa using g1)
              simp only [List.getElem_map] at hck
              have HB : Hid (keepB keep k = keep[k]) := by unfold Hid keepB; rw [List.getElem?_eq_getElem g1]; rfl
              have g1' : (k : Int) < keep.length := by omega
              cases hkk : keep[k] with
              | true =>
                rw [hkk] at hck HB
                clear hkk
                go_wp2_with fail
                refine HL.out.mono ?_
                rintro e w2 ⟨rfl, hs⟩
                have HS2 := Lib.hid hs
                clear hs
                go_wp2_with fail
                go_roundw
                case rel =>
                  refine ⟨k + 1, by omega, by go_num, ?_⟩
                  rw [HT.out, onR]
                  dsimp only
                  rw [if_neg (by rw [HTT.out]; decide), if_pos HB.out]
                  exact ⟨HD.out.1.put (.inr HF.out.1), HS2.out⟩
                case measure => simp [intOf]; omega
              | false =>
                rw [hkk] at hck HB
                clear hkk
                go_wp2_with fail
                go_roundw
                case rel =>
                  refine ⟨k + 1, by omega, by go_num, ?_⟩
                  rw [HT.out, onR]
                  dsimp only
                  rw [if_neg (by rw [HTT.out]; decide), if_neg (by rw [HB.out]; decide)]
                  exact ⟨HD.out.1, HD.out.2⟩
                case measure => simp [intOf]; omega
            · have HB : Hid (keepB keep k = false) := by unfold Hid keepB; rw [List.getElem?_eq_none (by omega)]; rfl
              have g1' : ¬ (k : Int) < keep.length := by omega
              go_wp2_with fail
              go_roundw
              case rel =>
                refine ⟨k + 1, by omega, by go_num, ?_⟩
                rw [HT.out, onR]
                dsimp only
                rw [if_neg (by rw [HTT.out]; decide), if_neg (by rw [HB.out]; decide)]
                exact ⟨HD.out.1, HD.out.2⟩
              case measure => simp [intOf]; omega
      · have ht : ps.zipIdx.take k = ps.zipIdx := List.take_of_length_le (by simp; omega)
        rw [ht] at HD
        clear ht
        have f2 := (HD.out.2.of rdisk_d).frozen 2
        have h4 := HD.out.2.rNone
        have f4 := (h4.of rdisk_d).frozen 4
        have c4 := (h4.of rdisk_d).cell 4
        have h5 := h4.rArmed 0 (x := 0) rfl
        have f5 := (h5.of rdisk_d).frozen 5
        have c5 := (h5.of rdisk_d).cell 5
        have HE := Lib.hid (h5.rOff false)
        have hkl : ¬ (k : Int) < ps.length := by omega
        clear h4 h5
        go_wp2_with fail
        go_end0
        refine ⟨rfl, ?_⟩
        rw [HP.out]
        refine Sat.rdiskI (D := ⟨onAll keep torn bytes D.cells D.pend, [], 0, D.writes, false⟩) HE.out ⟨?_, rfl, HD.out.1.fitc, by simp, ?_, ?_⟩
        · show onAll keep torn bytes D.cells D.pend = _
          rw [HR.out.cells, HR.out.pend, on_onR, zip_map]; rfl
        · rw [HD.out.1.len]; exact HR.out.two
        · rw [HD.out.1.len]; exact HR.out.most
  · have ho' : D.off = false := by simpa using ho
    have HP : Hid (D.on keep torn bytes = D) := by unfold Hid Dk.on; rw [if_neg ho]
    rw [ho'] at hc5
    clear ho ho' hr hs h
    go_enter Try.func41, Try.ntmps41
    go_wp2_with fail
    refine bodyPost_ret (results_none rfl _ _ _) rfl ?_
    refine ⟨rfl, ?_⟩
    rw [HP.out]
    exact HH.out
end Go.Proofs.Ytiimlbkccoofmaa
