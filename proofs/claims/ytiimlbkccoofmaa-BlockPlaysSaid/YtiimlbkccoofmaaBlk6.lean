/- The disk: On. -/
import Derived.Test.YtiimlbkccoofmaaBlk5
import Derived.Deep.CutBlock
namespace Go.Proofs.Ytiimlbkccoofmaa
open Go.RowKit
set_option linter.unusedVariables false

/-- Is the write torn? -/
def tornB (torn bytes : Int) (i : Nat) : Bool := decide ((i : Int) = torn ∧ 1 ≤ bytes ∧ bytes < 512)
def keepB (keep : List Bool) (i : Nat) : Bool := keep[i]?.getD false
def onStep (keep : List Bool) (torn bytes : Int) (cells : List (List UInt8 × Bool)) (x : (Nat × List UInt8) × Nat) : List (List UInt8 × Bool) :=
  if tornB torn bytes x.2 then cells.set x.1.1 ([], true) else if keepB keep x.2 then lay cells x.1 else cells
def onAll (keep : List Bool) (torn bytes : Int) (cells : List (List UInt8 × Bool)) (ps : List (Nat × List UInt8)) : List (List UInt8 × Bool) := ps.zipIdx.foldl (onStep keep torn bytes) cells
def Dk.on (D : Dk) (keep : List Bool) (torn bytes : Int) : Dk := if D.off then ⟨onAll keep torn bytes D.cells D.pend, [], 0, D.writes, false⟩ else D
def onC (keep : List Bool) (torn bytes : Int) (cs : List (Slc × Bool)) (x : (Nat × Slc) × Nat) : List (Slc × Bool) :=
  if tornB torn bytes x.2 then cs.set x.1.1 ((none, 0, []), true) else if keepB keep x.2 then layC cs x.1 else cs
theorem on_onC (keep : List Bool) (torn bytes : Int) : ∀ (xs : List ((Nat × Slc) × Nat)) (cs : List (Slc × Bool)), (xs.foldl (onC keep torn bytes) cs).map (fun x => (x.1.2.2, x.2)) =
    (xs.map fun x => ((x.1.1, x.1.2.2.2), x.2)).foldl (onStep keep torn bytes) (cs.map fun x => (x.1.2.2, x.2))
  | [], cs => rfl
  | x :: xs, cs => by
    rw [List.foldl_cons, on_onC keep torn bytes xs, List.map_cons, List.foldl_cons]
    congr 1
    unfold onC onStep
    dsimp only
    split
    · rw [List.map_set]
    · split
      · exact lay_layC cs x.1
      · rfl
theorem zip_map (ps : List (Nat × Slc)) : (ps.zipIdx).map (fun x => ((x.1.1, x.1.2.2.2), x.2)) = (ps.map fun x => (x.1, x.2.2.2)).zipIdx := by
  rw [List.zipIdx_map]
  rfl
theorem zip_take {α : Type} (ps : List α) (k : Nat) (h : k < ps.length) : ps.zipIdx.take (k + 1) = ps.zipIdx.take k ++ [(ps[k], k)] := by
  rw [List.take_succ_eq_append_getElem (by simpa using h)]
  simp
set_option maxHeartbeats 2000000 in
theorem on_any (d : Nat) (D : Dk) (Kp : Option Addr) (kc : Nat) (keep : List Bool) (torn bytes : Int) (w0 w : World) (F : SP) (h : Sat w0 (Disk d D * (Ro Kp (keep.map Value.bool) * F)) w) (hw2 : D.pend.length ≤ 1000000000) (hkc : keep.length ≤ 9223372036854775807) :
    Calls Try.prog 16 #[.pointer (some ⟨d, 0, none⟩), .slice Kp keep.length kc, .int .i64 torn, .int .i64 bytes] w fun e w' => e = .returned (.tuple #[]) ∧ Sat w0 (Disk d (D.on keep torn bytes) * (Ro Kp (keep.map Value.bool) * F)) w' := by
  have HH := Lib.hid h
  by_cases ho : D.off = true
  · have HP : Hid (D.on keep torn bytes = ⟨onAll keep torn bytes D.cells D.pend, [], 0, D.writes, false⟩) := by unfold Hid Dk.on; rw [if_pos ho]
    obtain ⟨C, cc, M, nm, vp, cs, ps, hr, hn, hs⟩ := h.disk
    have hc5 := hs.head.c5
    have hc1 := hs.head.c1
    rw [ho] at hc5
    have hpl : D.pend.length = ps.length := by rw [hr.pend]; simp
    rw [hpl] at hw2
    obtain ⟨A1, c1, rfl, hle, hmx⟩ := (hs.of disk_d).up3.row_sl
    have HS := Lib.hid hs
    have HR := Lib.hid hr
    have HN := Lib.hid hn
    unfold maxLen at hmx
    clear ho hr hn hs h hpl
    go_enter Try.func16, Try.ntmps16
    go_wp2_with fail
    go_loopw [8, 20] (fun _ i wr => ∃ k : Nat, k ≤ ps.length ∧ i = .int .i64 k ∧ Hid (Cok cs ((ps.zipIdx.take k).foldl (onC keep torn bytes) cs) ps ∧ Sat w0 (DiskC d C cc M nm (.slice A1 ps.length c1) ((ps.zipIdx.take k).foldl (onC keep torn bytes) cs) ps D.armed D.writes D.off * (Ro Kp (keep.map Value.bool) * F)) wr)) (fun _ i _ => ps.length - (intOf i).toNat)
    case atStart => exact ⟨0, by omega, rfl, ⟨rfl, HR.out.fitc⟩, HS.out⟩
    case round =>
      obtain ⟨k, hk, rfl, HD⟩ := hrel
      by_cases hlt : k < ps.length
      · obtain ⟨g, rfl, hg⟩ := (HD.out.2.of disk_d).up3.row_at (by omega)
        have q0 := hg (k * 2) (by rw [flat2_len (fun _ => rfl)]; omega)
        have q1 := hg (k * 2 + 1) (by rw [flat2_len (fun _ => rfl)]; omega)
        have e0 : (ps.flatMap pendV)[k * 2]'(by rw [flat2_len (fun _ => rfl)]; omega) = .int .i64 ps[k].1 := by
          have := flat2 (f := pendV) (fun _ => rfl) ps k 0 hlt (by omega)
          exact Option.some.inj ((List.getElem?_eq_getElem _).symm.trans this)
        have e1 : (ps.flatMap pendV)[k * 2 + 1]'(by rw [flat2_len (fun _ => rfl)]; omega) = slv ps[k].2 := by
          have := flat2 (f := pendV) (fun _ => rfl) ps k 1 hlt (by omega)
          exact Option.some.inj ((List.getElem?_eq_getElem _).symm.trans this)
        rw [e0] at q0
        rw [e1] at q1
        have hfp := HR.out.fitp ps[k] (List.getElem_mem hlt)
        have HT : Hid ((ps.zipIdx.take (k + 1)).foldl (onC keep torn bytes) cs = onC keep torn bytes ((ps.zipIdx.take k).foldl (onC keep torn bytes) cs) (ps[k], k)) := by
          rw [zip_take ps k hlt, List.foldl_append]; rfl
        have HM := Lib.hid (List.getElem_mem hlt)
        have hat : ps[k].1 < cs.length := hfp.2.2
        have HF := Lib.hid hfp
        clear hg e0 e1 hfp
        generalize ps[k] = p at *
        obtain ⟨a, As, cz, ls⟩ := p
        simp only [slv] at q0 q1 hat
        generalize (ps.zipIdx.take k).foldl (onC keep torn bytes) cs = cs1 at *
        have h2 := HD.out.2.allocPt 72 #[.int .i64 a, .slice As ls.length cz]
        have hlc : cs1.length = cs.length := HD.out.1.len
        have HS2 := Lib.hid h2
        clear h2
        rw [← hlc] at hat
        clear hlc
        have hki : (k : Int) ≤ 1000000000 := by omega
        go_upto_region 4 with fail
        obtain ⟨w2, hw2'⟩ : ∃ w2, w2 = wr.alloc (.cells #[.int .i64 a, .slice As ls.length cz] 72) := ⟨_, rfl⟩
        obtain ⟨b, hb⟩ : ∃ b, b = wr.heap.size := ⟨_, rfl⟩
        rw [← hw2', ← hb] at HS2
        rw [← hw2', ← hb]
        clear hw2' hb q0 q1
        go_cut [25] (fun s wx => s = .bool (tornB torn bytes k) ∧ Hid (wx = w2))
        case first =>
          by_cases g1 : (k : Int) = torn
          · have g1' : ((k : Int) == torn) = true := by rw [beq_iff_eq]; exact g1
            by_cases g2 : 1 ≤ bytes
            · by_cases g3 : bytes < 512
              · have e : tornB torn bytes k = true := by unfold tornB; exact decide_eq_true ⟨g1, g2, g3⟩
                have E := Lib.hid e
                clear e g1
                go_wp2_with fail
                go_meet
                exact ⟨by rw [E.out], rfl⟩
              · have e : tornB torn bytes k = false := by unfold tornB; exact decide_eq_false fun h => g3 h.2.2
                have E := Lib.hid e
                clear e g1
                go_wp2_with fail
                go_meet
                exact ⟨by rw [E.out], rfl⟩
            · have e : tornB torn bytes k = false := by unfold tornB; exact decide_eq_false fun h => g2 h.2.1
              have E := Lib.hid e
              clear e g1
              go_wp2_with fail
              go_meet
              exact ⟨by rw [E.out], rfl⟩
          · have g1' : ((k : Int) == torn) = false := by rw [beq_eq_false_iff_ne]; exact g1
            have e : tornB torn bytes k = false := by unfold tornB; exact decide_eq_false fun h => g1 h.1
            have E := Lib.hid e
            clear e g1
            go_wp2_with fail
            go_meet
            exact ⟨by rw [E.out], rfl⟩
        case rest =>
          obtain ⟨rfl, HW⟩ := hcut
          have hw := HW.out
          subst hw
          have q2 := HS2.out.cell 0
          have q3 := HS2.out.cell 1
          have q4 := HS2.out.right.head.c0
          have q5 := HS2.out.right.cellsFree (a * 2)
          have q6 := HS2.out.right.cellsFree (a * 2 + 1)
          obtain ⟨q7, q8⟩ := HS2.out.right.cellsAt hat
          cases ht : tornB torn bytes k with
          | true =>
            have HTT := Lib.hid ht
            clear ht
            go_wp2_with fail
            go_region
            go_wp2_with fail
            go_roundw
            case rel =>
              refine ⟨k + 1, by omega, by go_num, ?_⟩
              rw [HT.out, onC]
              dsimp only
              rw [if_pos HTT.out]
              exact ⟨HD.out.1.put ⟨⟨fun _ => ⟨rfl, rfl⟩, fun _ => rfl, Nat.le_refl _, by show (0:Nat) ≤ _; omega⟩, .inl rfl⟩, (HS2.out.right.setCellD a ((none, 0, []), true) hat (.inr rfl)).drew⟩
            case measure => simp [intOf]; omega
          | false =>
            have HTT := Lib.hid ht
            clear ht
            have HK : Hid (∀ hk : k < keep.length, ∃ b o, Kp = some ⟨b, o, none⟩ ∧ wc.cell? ⟨b, o + k, none⟩ = some (.bool keep[k])) := fun hk => by
              have h1 := HS2.out.right.up2.rdv.get (j := k) (by simpa using hk)
              obtain ⟨b, o, e, hc⟩ := h1
              exact ⟨b, o, e, by rw [hc]; simp⟩
            by_cases g1 : k < keep.length
            · obtain ⟨bk, ok, rfl, hck⟩ := HK.out g1
              have HB : Hid (keepB keep k = keep[k]) := by unfold Hid keepB; rw [List.getElem?_eq_getElem g1]; rfl
              have g1' : (k : Int) < keep.length := by omega
              cases hkk : keep[k] with
              | true =>
                rw [hkk] at hck HB
                clear hkk
                go_wp2_with fail
                go_region
                go_wp2_with fail
                go_roundw
                case rel =>
                  refine ⟨k + 1, by omega, by go_num, ?_⟩
                  rw [HT.out, onC]
                  dsimp only
                  rw [if_neg (by rw [HTT.out]; decide), if_pos HB.out]
                  exact ⟨HD.out.1.put ⟨HF.out.1, .inr HF.out.2.1⟩, (HS2.out.right.setCellD a ((As, cz, ls), false) hat (.inl (List.mem_map_of_mem (f := Prod.snd) HM.out))).drew⟩
                case measure => simp [intOf]; omega
              | false =>
                rw [hkk] at hck HB
                clear hkk
                go_wp2_with fail
                go_roundw
                case rel =>
                  refine ⟨k + 1, by omega, by go_num, ?_⟩
                  rw [HT.out, onC]
                  dsimp only
                  rw [if_neg (by rw [HTT.out]; decide), if_neg (by rw [HB.out]; decide)]
                  exact ⟨HD.out.1, HS2.out.right⟩
                case measure => simp [intOf]; omega
            · have HB : Hid (keepB keep k = false) := by unfold Hid keepB; rw [List.getElem?_eq_none (by omega)]; rfl
              have g1' : ¬ (k : Int) < keep.length := by omega
              go_wp2_with fail
              go_roundw
              case rel =>
                refine ⟨k + 1, by omega, by go_num, ?_⟩
                rw [HT.out, onC]
                dsimp only
                rw [if_neg (by rw [HTT.out]; decide), if_neg (by rw [HB.out]; decide)]
                exact ⟨HD.out.1, HS2.out.right⟩
              case measure => simp [intOf]; omega
      · have ht : ps.zipIdx.take k = ps.zipIdx := List.take_of_length_le (by simp; omega)
        rw [ht] at HD
        clear ht
        have HE : Hid (Sat w0 (Disk d ⟨onAll keep torn bytes D.cells D.pend, D.pend, D.armed, D.writes, D.off⟩ * (Ro Kp (keep.map Value.bool) * F)) wr) := by
          refine Sat.diskI (D := ⟨onAll keep torn bytes D.cells D.pend, D.pend, D.armed, D.writes, D.off⟩) HD.out.2 ⟨?_, HR.out.pend, HD.out.1.fitc, ?_, ?_, ?_⟩ HN.out
          · show onAll keep torn bytes D.cells D.pend = _
            rw [HR.out.cells, HR.out.pend, on_onC, zip_map]; rfl
          · rw [HD.out.1.len]; exact HR.out.fitp
          · rw [HD.out.1.len]; exact HR.out.two
          · rw [HD.out.1.len]; exact HR.out.most
        go_wp2_with fail
        refine (settled_any d _ w0 wr _ HE.out).mono ?_
        rintro e w' ⟨rfl, hs⟩
        obtain ⟨C', cc', M', nm', vp', cs', ps', hr', hn', hs'⟩ := hs.disk
        have q1 := hs'.head.c3
        have q2 := hs'.head.c5
        have f1 := hs'.headF 3
        have f2 := hs'.headF 5
        have HS' := Lib.hid hs'
        have HR' := Lib.hid hr'
        have HN' := Lib.hid hn'
        clear hs hs' hr' hn'
        go_wp2_with fail
        go_end0
        refine ⟨rfl, ?_⟩
        rw [HP.out]
        exact Sat.diskI (D := ⟨onAll keep torn bytes D.cells D.pend, [], 0, D.writes, false⟩) ((HS'.out.setArmed 0 rfl).setOff false) ⟨HR'.out.cells, HR'.out.pend, HR'.out.fitc, HR'.out.fitp, HR'.out.two, HR'.out.most⟩ HN'.out
  · have ho' : D.off = false := by simpa using ho
    have HP : Hid (D.on keep torn bytes = D) := by unfold Hid Dk.on; rw [if_neg ho]
    obtain ⟨C, cc, M, nm, vp, cs, ps, hr, hn, hs⟩ := h.disk
    have hc5 := hs.head.c5
    rw [ho'] at hc5
    clear ho ho' hr hn hs h
    go_enter Try.func16, Try.ntmps16
    go_wp2_with fail
    refine bodyPost_ret (results_none rfl _ _ _) rfl ?_
    refine ⟨rfl, ?_⟩
    rw [HP.out]
    exact HH.out
end Go.Proofs.Ytiimlbkccoofmaa
