/- A space's Frames once more: what is told has room for what it holds. -/
import Derived.Test.YtjmapbhgjhlefaaQ14
namespace Go.Proofs.Ytjmapbhgjhlefaa
open Go.RowKit
set_option linter.unusedVariables false
set_option maxRecDepth 100000

section
variable {w0 w : World} {F : SP} {s d slot turn : Nat} {v : Value} {ps : List (Nat × Fl)} {D : Dk}
set_option maxHeartbeats 1000000 in
theorem frames_yesC (n : Int) (h : Sat w0 (SpaceC s d slot turn v ps * F) w) (hl : ps.length ≤ 1000000) {i : Nat} (hi : i < ps.length) (he : idxN ps n = i) (hf : ps[i].2.frames.length ≤ 65536) (hsm : ∀ p ∈ ps[i].2.frames, p.length ≤ 480) :
    Calls Try.prog 30 #[.pointer (some ⟨s, 0, none⟩), .int .i64 n] w fun e w' => ∃ u ts, e = .returned (.tuple #[u, .int .i64 0]) ∧ txt ts = ps[i].2.frames ∧ (∀ x ∈ ts, x.2.2.length ≤ x.2.1 ∧ x.2.1 ≤ maxLen) ∧ Sat w0 (Row 39 1 u ts.length (ts.map slOf) * (RoL ts * (SpaceC s d slot turn v ps * F))) w' := by
  obtain ⟨i0, hi0', hz0', hz1', hz2'⟩ := info_parts rowsT
  have hi0 := Lib.hid hi0'; have hz0 := Lib.hid hz0'; have hz1 := Lib.hid hz1'; have hz2 := Lib.hid hz2'
  have HF := find_any n h hl
  rw [he, List.getElem?_eq_getElem hi] at HF
  have HF := Lib.hid HF
  obtain ⟨v5, ks, hks, hfl⟩ := (h.of (space_at hi)).fl
  obtain ⟨A, c, rfl, hu1, hu2⟩ := hfl.up2.row_sl
  have g5 : w.cell? ⟨ps[i].1, 5, none⟩ = some (.slice A ks.length c) := hfl.cell 5
  have HS := Lib.hid hfl
  have hkl : ks.length = ps[i].2.frames.length := by rw [← hks, txt, List.length_map]
  have HKs := Lib.hid hks
  have HSm : Hid (∀ k ∈ ks, k.2.2.length ≤ 480) := fun k hk => hsm k.2.2 (by rw [← hks]; exact List.mem_map_of_mem hk)
  have hk16 : ks.length ≤ 65536 := by omega
  clear h hks he hkl hf hsm hi0' hz0' hz1' hz2' hfl
  obtain ⟨G, hG⟩ : ∃ G, G = Pt s 102 #[ptrV d, .int .i64 (slot : Int), .int .u64 (turn : Int), v] * (Row 104 1 v ps.length (ps.map fun x => ptrV x.1) * (FlsP (ps.eraseIdx i) * F)) := ⟨_, rfl⟩
  rw [← hG] at HS
  have HG := Lib.hid hG
  clear hG
  go_enter Try.func30, Try.ntmps30
  go_wp2_with (go_at_call 69; (with_reducible refine HF.out.mono ?_); rintro x wx ⟨rfl, rfl⟩; unfold ptrO ptrV; dsimp only)
  go_loopw [7, 9, 20] (fun ov _ iv wr => ∃ (k : Nat) (C : Option Addr) (cc : Nat) (ts : Rows_), k ≤ ks.length ∧ ov = .slice C k cc ∧ iv = .int .i64 (k : Int) ∧ Hid ((∀ x ∈ ts, x.2.2.length ≤ x.2.1 ∧ x.2.1 ≤ maxLen) ∧ ts.length = k ∧ txt ts = txt (ks.take k) ∧ Sat w0 (Row 39 1 (.slice C k cc) k (ts.map slOf) * (RoL ts * (Pt ps[i].1 110 (flC ps[i].2 (.slice A ks.length c)) * (Row 39 1 (.slice A ks.length c) ks.length (ks.map slOf) * (RoL ks * G))))) wr)) (fun _ _ iv _ => ks.length - (intOf iv).toNat)
  case atStart => exact ⟨0, none, 0, [], by omega, rfl, rfl, by simp, rfl, rfl, (HS.out.rolNil [] (by simp)).row_nil _ 1⟩
  case round =>
    obtain ⟨k, C, cc, ts, hk, rfl, rfl, HD⟩ := hrel
    by_cases hlt : k < ks.length
    · have hrd : RdL wr A ks := ⟨RdV.of_own HD.out.2.2.2.up4.row_own, fun x hx => HD.out.2.2.2.up5.rol hx⟩
      obtain ⟨⟨b, o, rfl, hc⟩, hx⟩ := hrd.get hlt
      have hk2 : (k : Int) < ks.length := by omega
      have hxl := HSm.out ks[k] (List.getElem_mem hlt)
      have HT : Hid (txt (ks.take (k + 1)) = txt (ks.take k) ++ [ks[k].2.2]) := by
        unfold Hid txt
        rw [List.take_succ_eq_append_getElem hlt, List.map_append]
        rfl
      have HCl := Lib.hid (clone_any ks[k].1 ks[k].2.1 ks[k].2.2 wr hx (by omega))
      clear hx hrd
      generalize ks[k] = x at *
      go_wp2_with (first
        | (go_at_call 72; (with_reducible refine HCl.out.mono ?_); rintro e w2 ⟨v2, rfl, h2, _, k2⟩; have hs := HD.out.2.2.2.gotRow k2 h2; obtain ⟨A2, c2, hv2, hcp⟩ := hs.row_sl; subst hv2; have HCp := Lib.hid hcp; clear hcp; have HS2 := Lib.hid (hs.row_rol (l := x.2.2)); clear hs h2 k2)
        | (at_builtin; refine wpList_appS rfl (.tmp 24) (.tmp 27) 38 rfl 39 i0 _ 1 24 Try.underlying38 hi0.out hz0.out hz1.out hz2.out rfl (by decide) (.slice C k cc) k (ts.map slOf) rfl w0 _ (by exact (HS2.out.alloc' _).up2) (some ⟨w2.heap.size, 0, none⟩) 1 1 [slOf (A2, c2, x.2.2)] rfl (lit_rdv _ _ _) rfl (slOf_oneX _) (by unfold maxLen; omega) (by omega) ?_; intro A3 c3 w3 hs3; have HS3 := Lib.hid hs3; clear hs3))
      go_roundw
      · refine ⟨k + 1, A3, c3, ts ++ [(A2, c2, x.2.2)], by omega, rfl, by push_cast; rfl, ?_, ?_, ?_, ?_⟩
        · intro y hy
          rcases List.mem_append.1 hy with h9 | h9
          · exact HD.out.1 y h9
          · rw [List.mem_singleton.1 h9]; exact HCp.out
        · rw [List.length_append, HD.out.2.1]; rfl
        · rw [HT.out, ← HD.out.2.2.1, txt, List.map_append]; rfl
        · rw [List.map_append]
          exact HS3.out.of (by rw [← rol_app, List.map_singleton]; ac_rfl)
      · simp [intOf]; omega
    · obtain rfl : k = ks.length := by omega
      have hk2 : ¬ ((ks.length : Nat) : Int) < ks.length := by omega
      go_wp2_with fail
      go_ret2
      refine ⟨_, rfl, ts, ?_, (fun a b c hm => HD.out.1 _ hm), ?_⟩
      · rw [HD.out.2.2.1, List.take_length]; exact HKs.out
      · rw [HD.out.2.1]
        have h9 := Sat.flI HKs.out (HD.out.2.2.2.of (show _ = Pt ps[i].1 110 (flC ps[i].2 (.slice A ks.length c)) * (Row 39 1 (.slice A ks.length c) ks.length (ks.map slOf) * (RoL ks * (Row 39 1 (.slice C ks.length cc) ks.length (ts.map slOf) * (RoL ts * G)))) by ac_rfl))
        refine h9.of ?_
        rw [HG.out, space_at hi]
        ac_rfl
end
section
variable {w0 w : World} {F : SP} {s d : Nat} {D : Dk} {v : Value} {ps : List (Nat × Fl)} {S : Spc} {sf : Nat → Nat} {lim : Nat} {f : Fl}
theorem frames_spC {n : Int} (hg : Good D S sf lim) (h : Sat w0 (SpaceP s d S * (Disk d D * F)) w) (hf : S.find n = some f) :
    Calls Try.prog 30 #[.pointer (some ⟨s, 0, none⟩), .int .i64 n] w fun e w' => ∃ u ts, e = .returned (.tuple #[u, .int .i64 0]) ∧ txt ts = f.frames ∧ (∀ x ∈ ts, x.2.2.length ≤ x.2.1 ∧ x.2.1 ≤ maxLen) ∧ Sat w0 (Row 39 1 u ts.length (ts.map slOf) * (RoL ts * (SpaceP s d S * (Disk d D * F)))) w' := by
  obtain ⟨v, ps, hps, hs⟩ := h.space
  obtain ⟨i, hi, he, rfl⟩ := at_find hps hf
  obtain ⟨k1, k2, k3, k4, k5⟩ := hg.file (find_mem hf).1
  refine (frames_yesC n hs (by have := few hps hg; omega) hi he (by omega) k3).mono ?_
  rintro e w' ⟨u, ts, h1, h2, hcp, h3⟩
  refine ⟨u, ts, h1, h2, hcp, ?_⟩
  have h4 := Sat.spaceI hps (h3.of (show _ = SpaceC s d S.slot S.turn v ps * (Row 39 1 u ts.length (ts.map slOf) * (RoL ts * (Disk d D * F))) by ac_rfl))
  exact h4.of (by ac_rfl)
end
end Go.Proofs.Ytjmapbhgjhlefaa
