/- Joined, as they were built one by one: Ext17 Ext18 Ext19 Ext20 And Open. -/
import Derived.Laws.BitsLemmas
import Derived.Test.YtjmapbhgjhlefaaProg
import Derived.ProofKit
import Derived.SizedLaws
import Derived.OpenShut
import Derived.Deep.Slices
import Derived.Test.YtjmapbhgjhlefaaQ01
import Derived.Test.YtjmapbhgjhlefaaQ13
namespace Go.Proofs.Ytjmapbhgjhlefaa
open Go.RowKit
set_option linter.unusedVariables false
set_option maxRecDepth 100000

section
variable {w0 w : World} {F : SP} {s d : Nat} {D : Dk} {v : Value} {ps : List (Nat × Fl)} {S : Spc} {sf : Nat → Nat} {lim : Nat} {f : Fl}
theorem at_find (hps : ps.map (·.2) = S.files) {n : Int} (hf : S.find n = some f) : ∃ i, ∃ hi : i < ps.length, idxN ps n = i ∧ ps[i].2 = f := by
  have h := idxN_find hps n
  rw [hf] at h
  have hi : idxN ps n < ps.length := by
    rcases Nat.lt_or_ge (idxN ps n) ps.length with h9 | h9
    · exact h9
    · rw [List.getElem?_eq_none h9] at h; cases h
  rw [List.getElem?_eq_getElem hi] at h
  exact ⟨_, hi, rfl, (Option.some.inj h).symm⟩
theorem at_none (hps : ps.map (·.2) = S.files) {n : Int} (hf : S.find n = none) : idxN ps n = ps.length := by
  have h := idxN_find hps n
  rw [hf] at h
  rcases Nat.lt_or_ge (idxN ps n) ps.length with h9 | h9
  · rw [List.getElem?_eq_getElem h9] at h; cases h
  · exact Nat.le_antisymm (idxN_le ps n) h9
theorem find_mem {n : Int} (hf : S.find n = some f) : f ∈ S.files ∧ (f.num : Int) = n := by
  unfold Spc.find at hf
  exact ⟨List.mem_of_find?_eq_some hf, by simpa using List.find?_some hf⟩
theorem find_is (hg : Good D S sf lim) (hf : f ∈ S.files) : S.find (f.num : Int) = some f := by
  have h := find_num hg.fils.ok.nums hf
  unfold Spc.find
  rw [← h]
  congr 1
  funext g
  by_cases e : g.num = f.num
  · rw [e]; simp
  · rw [show (((g.num : Nat) : Int) == (f.num : Int)) = false by simp; omega, show (g.num == f.num) = false by simpa using e]
theorem few (hps : ps.map (·.2) = S.files) (hg : Good D S sf lim) : ps.length ≤ 24 := by
  have h1 := hg.fils.ok.count
  have h2 := congrArg List.length hps
  rw [List.length_map] at h2
  omega
/-- A file's numbers. -/
theorem Good.file (hg : Good D S sf lim) (hf : f ∈ S.files) : f.frames.length ≤ f.blocks ∧ f.first + f.blocks ≤ 65536 ∧ (∀ p ∈ f.frames, p.length ≤ 480) ∧ f.birth < 18446744073709551616 ∧ f.life < 18446744073709551616 := by
  obtain ⟨a1, a2, a3, a4, a5, a6⟩ := hg.fils.ok.each f hf
  obtain ⟨l1, ls, l2⟩ := hg.fils.each f hf
  have h1 := hg.fils.cap
  have h2 := hg.fils.most
  exact ⟨l2.fits, by omega, l2.small, by omega, by omega⟩
theorem frames_sp_no {n : Int} (hg : Good D S sf lim) (h : Sat w0 (SpaceP s d S * (Disk d D * F)) w) (hf : S.find n = none) :
    Calls Try.prog 30 #[.pointer (some ⟨s, 0, none⟩), .int .i64 n] w fun e w' => e = .returned (.tuple #[.slice none 0 0, .int .i64 34]) ∧ w = w' := by
  obtain ⟨v, ps, hps, hs⟩ := h.space
  exact frames_no n hs (by have := few hps hg; omega) (at_none hps hf)
theorem frames_sp {n : Int} (hg : Good D S sf lim) (h : Sat w0 (SpaceP s d S * (Disk d D * F)) w) (hf : S.find n = some f) :
    Calls Try.prog 30 #[.pointer (some ⟨s, 0, none⟩), .int .i64 n] w fun e w' => ∃ u ts, e = .returned (.tuple #[u, .int .i64 0]) ∧ txt ts = f.frames ∧ Sat w0 (Row 39 1 u ts.length (ts.map slOf) * (RoL ts * (SpaceP s d S * (Disk d D * F)))) w' := by
  obtain ⟨v, ps, hps, hs⟩ := h.space
  obtain ⟨i, hi, he, rfl⟩ := at_find hps hf
  obtain ⟨k1, k2, k3, k4, k5⟩ := hg.file (find_mem hf).1
  refine (frames_yes n hs (by have := few hps hg; omega) hi he (by omega) k3).mono ?_
  rintro e w' ⟨u, ts, h1, h2, h3⟩
  refine ⟨u, ts, h1, h2, ?_⟩
  have h4 := Sat.spaceI hps (h3.of (show _ = SpaceC s d S.slot S.turn v ps * (Row 39 1 u ts.length (ts.map slOf) * (RoL ts * (Disk d D * F))) by ac_rfl))
  exact h4.of (by ac_rfl)
theorem room_sp_no {n : Int} (hg : Good D S sf lim) (h : Sat w0 (SpaceP s d S * (Disk d D * F)) w) (hf : S.find n = none) :
    Calls Try.prog 41 #[.pointer (some ⟨s, 0, none⟩), .int .i64 n] w fun e w' => e = .returned (.tuple #[.int .i64 0, .int .i64 34]) ∧ w = w' := by
  obtain ⟨v, ps, hps, hs⟩ := h.space
  exact room_no n hs (by have := few hps hg; omega) (at_none hps hf)
theorem room_sp {n : Int} (hg : Good D S sf lim) (h : Sat w0 (SpaceP s d S * (Disk d D * F)) w) (hf : S.find n = some f) :
    Calls Try.prog 41 #[.pointer (some ⟨s, 0, none⟩), .int .i64 n] w fun e w' => e = .returned (.tuple #[.int .i64 ((f.blocks : Int) - f.frames.length), .int .i64 0]) ∧ Sat w0 (SpaceP s d S * (Disk d D * F)) w' := by
  obtain ⟨v, ps, hps, hs⟩ := h.space
  obtain ⟨i, hi, he, rfl⟩ := at_find hps hf
  obtain ⟨k1, k2, k3, k4, k5⟩ := hg.file (find_mem hf).1
  exact (room_yes n hs (by have := few hps hg; omega) hi he (by omega) k1).mono fun e w' ⟨h1, h2⟩ => ⟨h1, Sat.spaceI hps h2⟩
theorem files_sp (hg : Good D S sf lim) (h : Sat w0 (SpaceP s d S * (Disk d D * F)) w) :
    Calls Try.prog 32 #[.pointer (some ⟨s, 0, none⟩)] w fun e w' => ∃ u, e = .returned u ∧ Sat w0 (Row 35 3 u S.files.length ((S.files.map lieOf).flatMap lieV) * (SpaceP s d S * (Disk d D * F))) w' := by
  obtain ⟨v, ps, hps, hs⟩ := h.space
  refine (files_any hs (by have := few hps hg; omega)).mono ?_
  rintro e w' ⟨u, h1, h2⟩
  refine ⟨u, h1, ?_⟩
  have hl : ps.length = S.files.length := by have := congrArg List.length hps; simpa using this
  rw [hps, fiV_lie, hl] at h2
  exact (Sat.spaceI hps h2.up2).up2
theorem free_sp (hg : Good D S sf lim) (h : Sat w0 (SpaceP s d S * (Disk d D * F)) w) :
    Calls Try.prog 25 #[.pointer (some ⟨s, 0, none⟩)] w fun e w' => e = .returned (.int .i64 (freeN ((D.cells.length : Int) - 2) S.files)) ∧ w = w' := by
  obtain ⟨v, ps, hps, hs⟩ := h.space
  rw [← hps]
  refine free_any hs (by have := few hps hg; omega) hg.fils.most (fun x hx => ?_)
  have hm : x.2 ∈ S.files := by rw [← hps]; exact List.mem_map_of_mem hx
  have := (hg.file hm).2.1
  omega
theorem sync_sp (h : Sat w0 (SpaceP s d S * (Disk d D * F)) w) (hw2 : D.pend.length ≤ 1000000000) :
    Calls Try.prog 20 #[.pointer (some ⟨s, 0, none⟩)] w fun e w' => e = .returned (.int .i64 D.flush.2) ∧ Sat w0 (SpaceP s d S * (Disk d D.flush.1 * F)) w' := by
  obtain ⟨v, ps, hps, hs⟩ := h.space
  exact (sync_any hs hw2).mono fun e w' ⟨h1, h2⟩ => ⟨h1, Sat.spaceI hps h2⟩
theorem grow_set (hg : Good D S sf lim) (hps : ps.map (·.2) = S.files) {i : Nat} (hi : i < ps.length) (p : List UInt8) :
    (ps.set i (ps[i].1, { ps[i].2 with frames := ps[i].2.frames ++ [p] })).map (·.2) = S.files.map fun g => if g.num = ps[i].2.num then { g with frames := g.frames ++ [p] } else g := by
  have hn := hg.fils.ok.nums
  rw [← hps] at hn ⊢
  apply List.ext_getElem?
  intro j
  rw [List.getElem?_map, List.getElem?_set, List.getElem?_map, List.getElem?_map]
  by_cases e : i = j
  · subst e
    rw [if_pos rfl, if_pos hi, List.getElem?_eq_getElem hi]
    simp
  · rw [if_neg e]
    rcases Nat.lt_or_ge j ps.length with hj | hj
    · rw [List.getElem?_eq_getElem hj]
      simp only [Option.map_some]
      have hpw := List.pairwise_iff_getElem.1 hn
      have hne : ps[j].2.num ≠ ps[i].2.num := by
        rcases Nat.lt_or_ge i j with h1 | h1
        · have := hpw i j (by simpa using hi) (by simpa using hj) h1
          simp only [List.getElem_map] at this
          omega
        · have := hpw j i (by simpa using hj) (by simpa using hi) (by omega)
          simp only [List.getElem_map] at this
          omega
      rw [if_neg hne]
    · rw [List.getElem?_eq_none hj]; rfl
theorem append_sp (n : Int) (A : Option Addr) (c : Nat) (p : List UInt8) (hg : Good D S sf lim) (h : Sat w0 (SpaceP s d S * (Disk d D * F)) w) (hp : ∀ W, Sat w0 F W → Rd W A p) (hw1 : D.writes ≤ 1000000000) (hw2 : D.pend.length ≤ 1000000000) (hw3 : D.armed ≤ 9223372036854775807) :
    Calls Try.prog 29 #[.pointer (some ⟨s, 0, none⟩), .int .i64 n, .slice A p.length c] w fun e w' => e = .returned (.int .i64 (S.append n p D).2.2) ∧ Sat w0 (SpaceP s d (S.append n p D).1 * (Disk d (S.append n p D).2.1 * F)) w' := by
  obtain ⟨v, ps, hps, hs⟩ := h.space
  have hfew := few hps hg
  cases hf : S.find n with
  | none =>
    have e1 : S.append n p D = (S, D, 34) := by unfold Spc.append; rw [hf]
    rw [e1]
    refine (append_none n A c p.length hs (by omega) (at_none hps hf)).mono ?_
    rintro e w' ⟨h1, rfl⟩
    exact ⟨h1, Sat.spaceI hps hs⟩
  | some f =>
    obtain ⟨i, hi, he, rfl⟩ := at_find hps hf
    obtain ⟨k1, k2, k3, k4, k5⟩ := hg.file (find_mem hf).1
    by_cases h1 : 480 < p.length
    · have e1 : S.append n p D = (S, D, 35) := by unfold Spc.append; rw [hf]; simp only; rw [if_pos h1]
      rw [e1]
      refine (append_long n A c p.length hs (by omega) hi he h1).mono ?_
      rintro e w' ⟨h1, rfl⟩
      exact ⟨h1, Sat.spaceI hps hs⟩
    · by_cases h2 : ps[i].2.frames.length = ps[i].2.blocks
      · have e1 : S.append n p D = (S, D, 36) := by unfold Spc.append; rw [hf]; simp only; rw [if_neg h1, if_pos h2]
        rw [e1]
        refine (append_end n A c p.length hs (by omega) hi he (by omega) h2).mono ?_
        rintro e w' ⟨h1, hs2⟩
        exact ⟨h1, Sat.spaceI hps hs2⟩
      · obtain ⟨r, hr⟩ : ∃ r, r = D.write ((ps[i].2.first + ps[i].2.frames.length : Nat) : Int) (frameB ps[i].2.birth ps[i].2.life p) := ⟨_, rfl⟩
        have e1 : S.append n p D = if r.2 ≠ 0 then (S, r.1, r.2) else ({ S with files := S.files.map fun g => if g.num = ps[i].2.num then { g with frames := g.frames ++ [p] } else g }, r.1, 0) := by
          unfold Spc.append
          rw [hf]
          simp only
          rw [if_neg h1, if_neg h2, hr]
        rw [e1]
        refine (append_write n A c p hs hp (by omega) hi he (by omega) (by omega) k2 k4 k5 hw1 hw2 hw3).mono ?_
        rintro e w' ⟨h3, h4⟩
        rw [← hr] at h3 h4
        by_cases hz : r.2 = 0
        · rw [if_neg (by simpa using hz)]
          rw [if_pos hz] at h4
          refine ⟨by rw [h3, hz], Sat.spaceI (S := { S with files := S.files.map fun g => if g.num = ps[i].2.num then { g with frames := g.frames ++ [p] } else g }) (grow_set hg hps hi p) h4⟩
        · rw [if_pos hz]
          rw [if_neg hz] at h4
          exact ⟨h3, Sat.spaceI hps h4⟩
theorem switch_sp (A1 : Option Addr) (c1 : Nat) (add : List Fi) (A2 : Option Addr) (c2 : Nat) (drop : List Int) (hg : Good D S sf lim) (hlim : lim + 1 ≤ 1000000000) (h : Sat w0 (SpaceP s d S * (Disk d D * F)) w)
    (hadd : ∀ W, Sat w0 F W → RdV W A1 (add.flatMap fiI)) (hdrop : ∀ W, Sat w0 F W → RdV W A2 (drop.map (Value.int .i64))) (hn1 : add.length ≤ 1000000) (hn2 : drop.length ≤ 1000000) (hc2 : drop.length ≤ c2)
    (hb : ∀ f ∈ add, (-9223372036854775808 ≤ f.num ∧ f.num ≤ 9223372036854775807) ∧ (-9223372036854775808 ≤ f.blocks ∧ f.blocks ≤ 9223372036854775807)) (hbd : ∀ n ∈ drop, -9223372036854775808 ≤ n ∧ n ≤ 9223372036854775807)
    (hw1 : D.writes ≤ 1000000000) (hw2 : D.pend.length ≤ 999999999) (hw3 : D.armed ≤ 9223372036854775807) :
    Calls Try.prog 17 #[.pointer (some ⟨s, 0, none⟩), .slice A1 add.length c1, .slice A2 drop.length c2] w (SwX w0 F s d (S.switch add drop D)) := by
  obtain ⟨v, ps, hps, hs⟩ := h.space
  exact switch_any A1 c1 add A2 c2 drop hg hlim hs hps hadd hdrop hn1 hn2 hc2 hb hbd hw1 hw2 hw3
end
end Go.Proofs.Ytjmapbhgjhlefaa
namespace Go.Proofs.Ytjmapbhgjhlefaa
open Go.RowKit
set_option linter.unusedVariables false
set_option maxRecDepth 100000

/-- So much was written at most. -/
structure Cnt (D : Dk) (n : Nat) : Prop where
  writes : D.writes ≤ n
  pend : D.pend.length ≤ n
section
variable {D E : Dk} {S : Spc} {sf : Nat → Nat} {lim n m i : Nat} {f : Fl} {b : List UInt8}
theorem Cnt.mono (h : Cnt D n) (hm : n ≤ m) : Cnt D m := ⟨Nat.le_trans h.writes hm, Nat.le_trans h.pend hm⟩
theorem Cnt.took (h : Cnt D n) : Cnt (D.took i b) (n + 1) := ⟨Nat.succ_le_succ h.writes, by show (D.pend ++ [_]).length ≤ _; rw [List.length_append]; exact Nat.succ_le_succ h.pend⟩
theorem Cnt.wr (h : Cnt D n) : Cnt (D.wr i b) (n + 1) := ⟨(h.took (i := i) (b := b)).writes, (h.took (i := i) (b := b)).pend⟩
theorem Cnt.flush (h : Cnt D n) (ho : D.off = false) : Cnt D.flush.1 n := by rw [flush_on D ho]; exact ⟨h.writes, Nat.zero_le _⟩
theorem Cnt.crash {keep : List Bool} {torn bytes : Int} (h : Cnt D n) : Cnt (D.crash keep torn bytes) n := ⟨h.writes, Nat.zero_le _⟩
theorem flush_armed (ho : D.off = false) : D.flush.1.armed = D.armed := by rw [flush_on D ho]
theorem wr_armed : (D.wr i b).armed = D.armed - 1 := rfl
theorem took_armed : (D.took i b).armed = D.armed - 1 := rfl
theorem crash_armed {keep : List Bool} {torn bytes : Int} : (D.crash keep torn bytes).armed = 0 := rfl
theorem took_off (h : D.armed = 1) : (D.took i b).off = true := by unfold Dk.took; rw [h]; rfl
theorem append_grow (f : Fl) (p : List UInt8) : ({ S with files := S.files.map fun g => if g.num = f.num then { g with frames := g.frames ++ [p] } else g } : Spc) = S.grow f.num p := rfl
/-- What an Append makes. -/
inductive AppR (S : Spc) (D : Dk) (sf : Nat → Nat) (lim : Nat) (n : Int) (p : List UInt8) (r : Spc × Dk × Int) : Prop where
  | none (h : S.find n = none) (e : r = (S, D, 34))
  | long (f : Fl) (h : S.find n = some f) (h2 : 480 < p.length) (e : r = (S, D, 35))
  | full (f : Fl) (h : S.find n = some f) (h2 : p.length ≤ 480) (h3 : f.frames.length = f.blocks) (e : r = (S, D, 36))
  | off (f : Fl) (h : S.find n = some f) (h2 : p.length ≤ 480) (h3 : f.frames.length < f.blocks) (ha : D.armed = 1) (e : r = (S, D.took (f.first + f.frames.length) (frameB f.birth f.life p), 21))
  | ok (f : Fl) (h : S.find n = some f) (h2 : p.length ≤ 480) (h3 : f.frames.length < f.blocks) (ha : D.armed ≠ 1) (e : r = (S.grow f.num p, D.wr (f.first + f.frames.length) (frameB f.birth f.life p), 0)) (g : Good r.2.1 r.1 sf lim)
theorem append_cases (hg : Good D S sf lim) (n : Int) (p : List UInt8) : AppR S D sf lim n p (S.append n p D) := by
  cases hf : S.find n with
  | none => exact .none hf (by unfold Spc.append; rw [hf])
  | some f =>
    obtain ⟨hm, hn⟩ := find_mem hf
    obtain ⟨a1, a2, a3, a4, a5, a6⟩ := hg.fils.ok.each f hm
    obtain ⟨k1, k2, k3, k4, k5⟩ := hg.file hm
    by_cases h1 : 480 < p.length
    · exact .long f hf h1 (by unfold Spc.append; rw [hf]; simp only; rw [if_pos h1])
    · by_cases h2 : f.frames.length = f.blocks
      · exact .full f hf (by omega) h2 (by unfold Spc.append; rw [hf]; simp only; rw [if_neg h1, if_pos h2])
      · have hi : f.first + f.frames.length < D.cells.length := by omega
        have hw := write_took D (f.first + f.frames.length) (frameB f.birth f.life p) hg.fils.off hi (frame_len (by omega))
        have e1 : S.append n p D = if (if D.armed = 1 then (21 : Int) else 0) ≠ 0 then (S, D.took (f.first + f.frames.length) (frameB f.birth f.life p), if D.armed = 1 then (21 : Int) else 0) else (S.grow f.num p, D.took (f.first + f.frames.length) (frameB f.birth f.life p), 0) := by
          unfold Spc.append
          rw [hf]
          simp only
          rw [if_neg h1, if_neg h2, hw]
          rfl
        by_cases ha : D.armed = 1
        · exact .off f hf (by omega) (by omega) ha (by rw [e1, if_pos ha, if_pos (by simp)])
        · have e2 : S.append n p D = (S.grow f.num p, D.wr (f.first + f.frames.length) (frameB f.birth f.life p), 0) := by
            rw [e1, if_neg ha, if_neg (by simp)]
            have : D.took (f.first + f.frames.length) (frameB f.birth f.life p) = D.wr (f.first + f.frames.length) (frameB f.birth f.life p) := by
              unfold Dk.wr Dk.took
              simp only [if_neg ha, hg.fils.off]
            rw [this]
          refine .ok f hf (by omega) (by omega) ha e2 ?_
          rw [e2]
          exact good_append hg hm (by omega) (by omega)
/-- What a Switch makes. -/
inductive SwR (S : Spc) (D : Dk) (sf : Nat → Nat) (lim : Nat) (add : List Fi) (drop : List Int) (r : Spc × Dk × Int) : Prop where
  | no (h : S.may add drop = false) (e : r = (S, D, 31))
  | many (h : S.may add drop = true) (h2 : (24 : Int) < (S.files.length : Int) + add.length - drop.length) (e : r = (S, D, 32))
  | full (h : S.may add drop = true) (h2 : (S.files.length : Int) + add.length - drop.length ≤ 24) (h3 : addX D.cells.length (S.turn + 1) add S.lie (S.files.filter fun f => !drop.contains (f.num : Int)) = none) (e : r = (S, D, 33))
  | off (fs : List Fl) (h : S.may add drop = true) (h2 : (S.files.length : Int) + add.length - drop.length ≤ 24) (h3 : addX D.cells.length (S.turn + 1) add S.lie (S.files.filter fun f => !drop.contains (f.num : Int)) = some fs) (ha : D.armed = 1)
    (hn : Next D S sf (sortN fs) (fun num => if (num : Int) ∈ add.map (·.num) then 0 else sf num)) (e : r = (S, D.took (1 - S.slot) (sealB (S.turn + 1) ((sortN fs).map Fl.hd)), 21))
  | ok (fs : List Fl) (h : S.may add drop = true) (h2 : (S.files.length : Int) + add.length - drop.length ≤ 24) (h3 : addX D.cells.length (S.turn + 1) add S.lie (S.files.filter fun f => !drop.contains (f.num : Int)) = some fs) (ha : D.armed ≠ 1)
    (hn : Next D S sf (sortN fs) (fun num => if (num : Int) ∈ add.map (·.num) then 0 else sf num)) (e : r = (⟨1 - S.slot, S.turn + 1, sortN fs⟩, (D.wr (1 - S.slot) (sealB (S.turn + 1) ((sortN fs).map Fl.hd))).flush.1, 0)) (g : Good r.2.1 r.1 (lenAt (sortN fs)) (lim + 1))
theorem switch_cases (hg : Good D S sf lim) (hlim : lim + 1 ≤ 1000000000) (add : List Fi) (drop : List Int) : SwR S D sf lim add drop (S.switch add drop D) := by
  have hcap := hg.fils.cap
  have ht : (S.turn + 1) % 18446744073709551616 = S.turn + 1 := Nat.mod_eq_of_lt (by omega)
  cases hm : S.may add drop with
  | false => exact .no hm (sw_no add drop hm)
  | true =>
    by_cases h2 : (24 : Int) < (S.files.length : Int) + add.length - drop.length
    · exact .many hm h2 (sw_many add drop hm h2)
    · cases h3 : addX D.cells.length (S.turn + 1) add S.lie (S.files.filter fun f => !drop.contains (f.num : Int)) with
      | none => exact .full hm (by omega) h3 (sw_full add drop hm h2 (by rw [ht]; exact h3))
      | some fs =>
        have hn := next_of hg hm (by omega) h3
        have hs := sw_put add drop hm h2 (fs := fs) (D := D) (by rw [ht]; exact h3)
        obtain ⟨p1, p2⟩ := put_eq hg hn.ok.count
        by_cases ha : D.armed = 1
        · exact .off fs hm (by omega) h3 ha hn (by rw [hs, p1 ha])
        · refine .ok fs hm (by omega) h3 ha hn (by rw [hs, p2 ha]) ?_
          rw [hs, p2 ha]
          exact good_put hg hn hlim
/-- A disk that is new reads as noughts. -/
theorem new_may {i : Nat} (h : ∀ r, May (Dk.new n) i r → r = (List.replicate 512 0, 0)) : True := trivial
theorem may_new {i : Nat} {r : List UInt8 × Int} (h : May (Dk.new n) i r) : r = (List.replicate 512 0, 0) := by
  rcases h with ⟨x, h1, h2⟩ | ⟨b, h1, _⟩
  · have h3 := List.mem_of_getElem? h1
    have h4 : x = ([], false) := List.eq_of_mem_replicate h3
    subst h4
    rw [h2]
    rfl
  · cases h1
theorem new_read {i : Nat} (h : i < n) : (Dk.new n).read (i : Int) = (List.replicate 512 0, 0) := may_new (may_read (Dk.new n) i rfl (by unfold Dk.new; simpa using h))
theorem unseal_zero : unsealB (List.replicate 512 0) = none := by
  unfold unsealB
  rw [if_neg]
  rintro ⟨h, _⟩
  have : (List.replicate 512 (0 : UInt8)).take 4 = [0, 0, 0, 0] := by rw [List.take_replicate]; rfl
  rw [this] at h
  exact absurd h (by decide)
theorem readX_new (h : 2 ≤ n) : readX (Dk.new n) = (none, 0) := by
  have hb : ∀ i, i < 2 → bestH (Dk.new n) none i = none := fun i hi => by
    unfold bestH
    rw [new_read (show i < n by omega)]
    simp only [ne_eq, not_true_eq_false, if_false, unseal_zero]
  unfold readX
  rw [if_neg (by simp [Dk.new]), show bestH (Dk.new n) none 0 = none from hb 0 (by omega), show bestH (Dk.new n) none 1 = none from hb 1 (by omega)]
def seal1 : List UInt8 := sealB 1 []
theorem seal1_len : seal1.length = 512 := sealB_len (by simp)
/-- A disk with a space without files. -/
def beginD (n : Nat) : Dk := ((Dk.new n).wr 1 seal1).flush.1
theorem formatX_new (h : 2 ≤ n) : formatX (Dk.new n) = (beginD n, 0) := by
  unfold formatX
  rw [readX_new h, if_neg (by simp)]
  have hw := write_took (Dk.new n) 1 seal1 rfl (by unfold Dk.new; simp; omega) seal1_len
  have e1 : (Dk.new n).took 1 seal1 = (Dk.new n).wr 1 seal1 := rfl
  rw [if_neg (by simp [Dk.new]), e1] at hw
  have h1 : (Spc.put ⟨0, 0, []⟩ [] (Dk.new n)) = (⟨1, 1, []⟩, beginD n, 0) := by
    obtain ⟨_, _, c3⟩ := put_cases ⟨0, 0, []⟩ (Dk.new n) [] ((Dk.new n).wr 1 seal1, 0) (beginD n, 0) (by show _ = (Dk.new n).write ((1 : Nat) : Int) seal1; rw [hw]) (by show _ = ((Dk.new n).wr 1 seal1).flush; unfold beginD; rw [flush_on _ rfl])
    exact c3 rfl rfl
  show ((Spc.put ⟨0, 0, []⟩ [] (Dk.new n)).2.1, (Spc.put ⟨0, 0, []⟩ [] (Dk.new n)).2.2) = _
  rw [h1]
theorem begin_good (h : 2 ≤ n) (hn : n ≤ 65536) : Good (beginD n) ⟨1, 1, []⟩ (fun _ => 0) 1 := by
  have hwf0 : WfD (Dk.new n) := ⟨fun x hx => by cases hx⟩
  have hl0 : (Dk.new n).cells.length = n := by unfold Dk.new; simp
  have hwf : WfD ((Dk.new n).wr 1 seal1) := wr_wf hwf0 (by rw [hl0]; omega) seal1_len
  have hc := came_flush hwf rfl
  have hl : (beginD n).cells.length = n := hc.len.trans hl0
  have hmay : ∀ i r, i < n → May (beginD n) i r → r = (if i = 1 then (seal1, 0) else (List.replicate 512 0, 0)) := fun i r hi hr => by
    rw [hc.one i r (by show i < ((Dk.new n).wr 1 seal1).cells.length; rw [wr_len, hl0]; exact hi) hr, flush_read _ hwf rfl i (by rw [wr_len, hl0]; exact hi), wr_read rfl (by rw [hl0]; exact hi)]
    by_cases e : i = 1
    · rw [if_pos e, if_pos e]
    · rw [if_neg e, if_neg e]; exact new_read hi
  refine ⟨⟨hc.off, hc.wf, by rw [hl]; exact h, by rw [hl]; exact hn, ⟨by simp, List.Pairwise.nil, List.Pairwise.nil, by simp⟩, ⟨Nat.le_refl _, by omega⟩, by simp, fun i hi hin r hr e => ?_⟩, ⟨by show 1 < 2; omega, fun r hr => ?_, fun r hr e t g hu => ?_⟩⟩
  · rw [hmay i r (by rw [hl] at hin; exact hin) hr, if_neg (by omega)]
    have : (List.replicate 512 (0 : UInt8)).take 8 = List.replicate 8 0 := by rw [List.take_replicate]; rfl
    show getN ((List.replicate 512 (0 : UInt8)).take 8) ≤ 1
    rw [this]
    decide
  · rw [hmay 1 r (by omega) hr, if_pos rfl]; rfl
  · rw [hmay 0 r (by omega) hr, if_neg (by omega)] at hu
    rw [unseal_zero] at hu
    cases hu
theorem begin_open (h : 2 ≤ n) (hn : n ≤ 65536) : openX (beginD n) = (some ⟨1, 1, []⟩, 0) := by
  have hg := begin_good h hn
  rw [openX_read (readX_heads hg.heads hg.fils.off hg.fils.two (by show 1 < _; omega) (by simp) (by simp) (by rfl))]
  rfl
theorem begin_cnt : Cnt (beginD n) 1 := Cnt.flush (Cnt.wr (n := 0) ⟨Nat.le_refl _, Nat.le_refl _⟩) rfl
theorem begin_armed : (beginD n).armed = 0 := by unfold beginD; rw [flush_armed rfl]; rfl
theorem begin_len : (beginD n).cells.length = n := by unfold beginD; rw [flush_on _ rfl]; show (List.foldl lay _ _).length = _; rw [lay_len]; unfold Dk.wr Dk.took Dk.new; simp
end
end Go.Proofs.Ytjmapbhgjhlefaa
namespace Go.Proofs.Ytjmapbhgjhlefaa
open Go.RowKit
set_option linter.unusedVariables false
set_option maxRecDepth 100000

theorem num3_any (k : Int) (w : World) : Calls Try.prog 27 #[.int .i64 k] w fun e w' => e = .returned (.int .i64 k) ∧ w = w' := by
  go_enter Try.func27, Try.ntmps27
  go_wp2
  go_ret
  exact ⟨rfl, rfl⟩
section
variable {D E : Dk} {S : Spc} {sf : Nat → Nat} {lim n m i : Nat} {f : Fl} {b : List UInt8}
theorem sw_ok (hg : Good D S sf lim) (hlim : lim + 1 ≤ 1000000000) {add : List Fi} {drop : List Int} {fs : List Fl} (ha : D.armed ≠ 1) (hm : S.may add drop = true) (hc : (S.files.length : Int) + add.length - drop.length ≤ 24) (hx : addX D.cells.length (S.turn + 1) add S.lie (S.files.filter fun f => !drop.contains (f.num : Int)) = some fs) :
    ∃ D', S.switch add drop D = (⟨1 - S.slot, S.turn + 1, sortN fs⟩, D', 0) ∧ Good D' ⟨1 - S.slot, S.turn + 1, sortN fs⟩ (lenAt (sortN fs)) (lim + 1) ∧ (∀ n, Cnt D n → Cnt D' (n + 1)) ∧ D'.cells.length = D.cells.length ∧ D'.armed = D.armed - 1 := by
  have h := switch_cases hg hlim add drop
  cases h with
  | no h1 e => rw [hm] at h1; cases h1
  | many h1 h2 e => omega
  | full h1 h2 h3 e => rw [hx] at h3; cases h3
  | off fs' h1 h2 h3 h4 h5 e => exact absurd h4 ha
  | ok fs' h1 h2 h3 h4 h5 e g =>
    rw [hx] at h3
    injection h3 with h3
    subst h3
    rw [e] at g
    have hs : sealB (S.turn + 1) ((sortN fs).map Fl.hd) = sealB (S.turn + 1) ((sortN fs).map Fl.hd) := rfl
    have hl : (sealB (S.turn + 1) ((sortN fs).map Fl.hd)).length = 512 := sealB_len (by rw [List.length_map]; exact h5.ok.count)
    have hwf : WfD (D.wr (1 - S.slot) (sealB (S.turn + 1) ((sortN fs).map Fl.hd))) := wr_wf hg.fils.wf (by have := hg.fils.two; omega) hl
    exact ⟨_, e, g, fun n hn => hn.wr.flush rfl, (came_flush hwf rfl).len, by rw [flush_armed rfl]; rfl⟩
theorem app_ok (hg : Good D S sf lim) {n : Int} {p : List UInt8} (ha : D.armed ≠ 1) (hf : S.find n = some f) (hp : p.length ≤ 480) (hl : f.frames.length < f.blocks) :
    ∃ D', S.append n p D = (S.grow f.num p, D', 0) ∧ Good D' (S.grow f.num p) sf lim ∧ (∀ n, Cnt D n → Cnt D' (n + 1)) ∧ D'.cells.length = D.cells.length ∧ D'.armed = D.armed - 1 := by
  have h := append_cases hg n p
  cases h with
  | none h1 e => rw [hf] at h1; cases h1
  | long f' h1 h2 e => omega
  | full f' h1 h2 h3 e => rw [hf] at h1; injection h1 with h1; subst h1; omega
  | off f' h1 h2 h3 h4 e => exact absurd h4 ha
  | ok f' h1 h2 h3 h4 e g =>
    rw [hf] at h1
    injection h1 with h1
    subst h1
    rw [e] at g
    exact ⟨_, e, g, fun n hn => hn.wr, rfl, rfl⟩
end
section
variable {w0 w : World} {F : SP}
set_option maxHeartbeats 1000000 in
theorem begin_any (n : Nat) (h : 2 ≤ n ∧ n ≤ 65536) (hs : Sat w0 F w) :
    Calls Try.prog 24 #[.int .i64 (n : Int)] w fun e w' => ∃ d s, e = .returned (.tuple #[.pointer (some ⟨d, 0, none⟩), .pointer (some ⟨s, 0, none⟩)]) ∧ Sat w0 (SpaceP s d ⟨1, 1, []⟩ * (Disk d (beginD n) * F)) w' := by
  obtain ⟨h2, hN⟩ := h
  have HNew : Hid (Calls Try.prog 13 #[.int .i64 (n : Int)] w fun e w' => ∃ d, e = .returned (.tuple #[.pointer (some ⟨d, 0, none⟩), .int .i64 0]) ∧ Sat w0 (Disk d (Dk.new n) * F) w') := (new_any (n : Int) w0 w F hs).mono fun e w' h9 => by
    unfold NewD at h9
    rw [if_pos (by omega), Int.toNat_natCast] at h9
    exact h9
  have HFo : Hid (∀ W d, Sat w0 (Disk d (Dk.new n) * F) W → Calls Try.prog 15 #[.pointer (some ⟨d, 0, none⟩)] W fun e w' => e = .returned (.int .i64 0) ∧ Sat w0 (Disk d (beginD n) * F) w') := fun W d hW => by
    have h9 := format_any hW (by unfold Dk.new; simpa using h2) (by unfold Dk.new; simpa using hN) (by show 0 ≤ _; omega) (by show 0 ≤ _; omega) (by show 0 ≤ _; omega)
    rw [formatX_new h2] at h9
    exact h9
  have HOp : Hid (∀ W d, Sat w0 (Disk d (beginD n) * F) W → Calls Try.prog 16 #[.pointer (some ⟨d, 0, none⟩)] W fun e w' => ∃ s, e = .returned (.tuple #[.pointer (some ⟨s, 0, none⟩), .int .i64 0]) ∧ Sat w0 (SpaceP s d ⟨1, 1, []⟩ * (Disk d (beginD n) * F)) w') := fun W d hW => by
    refine (open_any hW (by rw [begin_len]; exact h2) (by rw [begin_len]; exact hN)).mono ?_
    rintro e w' ⟨p, h3, h4⟩
    rw [begin_open h2 hN] at h3 h4
    obtain ⟨s, rfl⟩ := opt_some h4
    exact ⟨s, h3, h4⟩
  clear hs h2 hN
  go_enter Try.func24, Try.ntmps24
  go_upto_region 2 with (go_at_call 13; (with_reducible refine HNew.out.mono ?_); rintro e w2 ⟨d, rfl, hs⟩; have HS2 := Lib.hid hs; clear hs)
  have HFo2 := Lib.hid (HFo.out w2 d HS2.out)
  go_upto_region 4 with (first | (go_at_call 27; (with_reducible refine (num3_any _ _).mono ?_); rintro e wx ⟨rfl, rfl⟩) | (go_at_call 15; (with_reducible refine HFo2.out.mono ?_); rintro e w3 ⟨rfl, hs⟩; have HS3 := Lib.hid hs; clear hs))
  have HOp2 := Lib.hid (HOp.out w3 d HS3.out)
  go_wp2_with (first | (go_at_call 27; (with_reducible refine (num3_any _ _).mono ?_); rintro e wx ⟨rfl, rfl⟩) | (go_at_call 16; (with_reducible refine HOp2.out.mono ?_); rintro e w4 ⟨s, rfl, hs⟩; have HS4 := Lib.hid hs; clear hs))
  go_ret2
  exact ⟨d, s, rfl, HS4.out⟩
theorem txt_one {ts : Rows_} {l : List UInt8} (h : txt ts = [l]) : ∃ A c, ts = [(A, c, l)] := by
  match ts, h with
  | [x], h =>
    obtain ⟨A, c, m⟩ := x
    have h2 : [m] = [l] := h
    injection h2 with h2
    subst h2
    exact ⟨A, c, rfl⟩
def wkF : Fl := ⟨7, 2, 3, 2, 1, []⟩
theorem lit_fi {e : TypeId} {B : Nat} {cs : Array Value} {W : World} (h : Sat w0 (Pt B e cs * F) W) {xs : List Value} (hx : cs.toList = xs) : RdV W (some ⟨B, 0, none⟩) xs := by
  subst hx
  exact RdV.of_at h.at (fun j hj => by rw [Array.getElem?_toList.symm, List.getElem?_eq_getElem hj])
set_option maxHeartbeats 2000000 in
theorem wakes3_any (hs : Sat w0 F w) : Calls Try.prog 26 #[] w fun e w' => e = .returned (.bool true) ∧ Sat w0 F w' := by
  have hg0 := begin_good (n := 10) (by omega) (by omega)
  obtain ⟨D1, e1, hg1, hc1, hl1, ha1⟩ := sw_ok hg0 (by omega) (add := [⟨7, 0, 3⟩]) (drop := []) (fs := [wkF]) (by rw [begin_armed]; omega) rfl (by decide) (by rw [begin_len]; rfl)
  have hg1 : Good D1 ⟨0, 2, [wkF]⟩ (lenAt [wkF]) 2 := hg1
  obtain ⟨D2, e2, hg2, hc2, hl2, ha2⟩ := app_ok hg1 (n := 7) (p := [97]) (f := wkF) (by rw [ha1, begin_armed]; omega) rfl (by decide) (by decide)
  have hcn1 := hc1 1 begin_cnt
  have HB : Hid (Calls Try.prog 24 #[.int .i64 10] w fun e w' => ∃ d s, e = .returned (.tuple #[.pointer (some ⟨d, 0, none⟩), .pointer (some ⟨s, 0, none⟩)]) ∧ Sat w0 (SpaceP s d ⟨1, 1, []⟩ * (Disk d (beginD 10) * F)) w') := begin_any (w0 := w0) (F := F) 10 (by omega) hs
  have HFree : Hid (∀ (W : World) (s d : Nat) (X : SP), Sat w0 (SpaceP s d ⟨1, 1, []⟩ * (Disk d (beginD 10) * X)) W → Calls Try.prog 25 #[.pointer (some ⟨s, 0, none⟩)] W fun e w' => e = .returned (.int .i64 8) ∧ W = w') := fun W s d X hW => by
    have h9 := free_sp hg0 hW
    rw [begin_len] at h9
    exact h9
  have HSw : Hid (∀ W s d B X, Sat w0 (SpaceP s d ⟨1, 1, []⟩ * (Disk d (beginD 10) * (Pt B 35 #[.int .i64 7, .int .i64 0, .int .i64 3] * X))) W → Calls Try.prog 17 #[.pointer (some ⟨s, 0, none⟩), .slice (some ⟨B, 0, none⟩) 1 1, .slice none 0 0] W fun e w' => e = .returned (.int .i64 0) ∧ Sat w0 (SpaceP s d ⟨0, 2, [wkF]⟩ * (Disk d D1 * (Pt B 35 #[.int .i64 7, .int .i64 0, .int .i64 3] * X))) w') := fun W s d B X hW => by
    have h9 := switch_sp (some ⟨B, 0, none⟩) 1 [⟨7, 0, 3⟩] none 0 [] hg0 (by omega) hW (fun W' hW' => lit_fi hW' rfl) (fun _ _ hne => absurd rfl hne) (by decide) (by decide) (by decide) (by simp) (by simp) (by have := begin_cnt (n := 10).writes; omega) (by have := begin_cnt (n := 10).pend; omega) (by rw [begin_armed]; omega)
    rw [e1] at h9
    exact h9
  have HAp : Hid (∀ W s d B X, Sat w0 (SpaceP s d ⟨0, 2, [wkF]⟩ * (Disk d D1 * (Ow B (.cells #[.int .u8 97] 5 (1, 2)) * X))) W → Calls Try.prog 29 #[.pointer (some ⟨s, 0, none⟩), .int .i64 7, .slice (some ⟨B, 0, none⟩) 1 1] W fun e w' => e = .returned (.int .i64 0) ∧ Sat w0 (SpaceP s d ⟨0, 2, [{ wkF with frames := [[97]] }]⟩ * (Disk d D2 * (Ow B (.cells #[.int .u8 97] 5 (1, 2)) * X))) w') := fun W s d B X hW => by
    have h9 := append_sp 7 (some ⟨B, 0, none⟩) 1 [97] hg1 hW (fun W' hW' => ow_rd (l := [97]) hW') (by have := hcn1.writes; omega) (by have := hcn1.pend; omega) (by rw [ha1, begin_armed]; omega)
    rw [e2] at h9
    exact h9
  have hg2 : Good D2 ⟨0, 2, [{ wkF with frames := [[97]] }]⟩ (lenAt [wkF]) 2 := hg2
  have HFi := Lib.hid fun (W : World) (s d : Nat) (X : SP) (hW : Sat w0 (SpaceP s d ⟨0, 2, [{ wkF with frames := [[97]] }]⟩ * (Disk d D2 * X)) W) => files_sp hg2 hW
  have HFr := Lib.hid fun (W : World) (s d : Nat) (X : SP) (hW : Sat w0 (SpaceP s d ⟨0, 2, [{ wkF with frames := [[97]] }]⟩ * (Disk d D2 * X)) W) => frames_sp (n := 7) (f := { wkF with frames := [[97]] }) hg2 hW rfl
  have hcv := fun (W : World) (C : Array Value) (n c : Nat) => Lib.run_convert_bytes_const (P := Try.prog) W 39 5 C n c Try.underlying39 Try.underlying5
  clear hg0 e1 hg1 hc1 hl1 ha1 e2 hg2 hc2 hl2 ha2 hcn1 hs
  go_enter Try.func26, Try.ntmps26
  go_upto_region 2 with (go_at_call 24; (with_reducible refine HB.out.mono ?_); rintro e w2 ⟨d, s, rfl, hs⟩; have HS2 := Lib.hid hs; clear hs)
  have HF2 := Lib.hid (HFree.out w2 s d _ HS2.out)
  go_upto_region 4 with (first
    | (go_at_call 27; (with_reducible refine (num3_any _ _).mono ?_); rintro e wx ⟨rfl, rfl⟩)
    | (go_at_call 25; (with_reducible refine HF2.out.mono ?_); rintro e wx ⟨rfl, rfl⟩)
    | (go_at_call 17; have h8 := HS2.out.allocPt 35 #[.int .i64 7, .int .i64 0, .int .i64 3]; have h9 := HSw.out _ s d _ F (h8.of (by ac_rfl)); (with_reducible refine h9.mono ?_); rintro e w3 ⟨rfl, hs⟩; have HS3 := Lib.hid hs; clear hs h8 h9)
    | (go_at_call 29; have h8 := HS3.out.alloc (.cells #[.int .u8 97] 5 (1, 2)); have h9 := HAp.out _ s d _ F (h8.up4.right.of (by ac_rfl)); (with_reducible refine h9.mono ?_); rintro e w4 ⟨rfl, hs⟩; have HS4 := Lib.hid hs; clear hs h8 h9))
  have HF4 := Lib.hid (HFi.out w4 s d _ HS4.out)
  go_upto_region 5 with (go_at_call 32; (with_reducible refine HF4.out.mono ?_); rintro e w5 ⟨u, rfl, hs⟩; obtain ⟨A5, c5, rfl, _⟩ := hs.row_sl; have HS5 := Lib.hid hs; clear hs)
  have HF5 := Lib.hid (HFr.out w5 s d (Row 35 3 (.slice A5 1 c5) 1 [.int .i64 7, .int .i64 2, .int .i64 3] * (Ow w3.heap.size (.cells #[.int .u8 97] 5 (1, 2)) * F)) (HS5.out.of (by show Row _ 3 _ 1 [.int .i64 7, .int .i64 2, .int .i64 3] * _ = _; ac_rfl)))
  clear HFi HFr HSw HAp HFree HF2 HF4 HB
  go_upto_region 6 with (go_at_call 30; (with_reducible refine HF5.out.mono ?_); rintro e w6 ⟨u, ts, rfl, ht, hs⟩; have HT := Lib.hid ht; have HS6 := Lib.hid hs; clear hs ht)
  obtain ⟨A, c, rfl⟩ := txt_one HT.out
  obtain ⟨A6, c6, rfl, hc6⟩ := HS6.out.row_sl
  obtain ⟨g6, rfl, hg6⟩ := HS6.out.row_at (show 0 < 1 by omega)
  obtain ⟨g5, rfl, hg5⟩ := HS6.out.up5.row_at (show 0 < 1 by omega)
  have z0 : w6.cell? ⟨g6, 0, none⟩ = some (.slice A 1 c) := hg6 0 (by simp)
  have y0 : w6.cell? ⟨g5, 0, none⟩ = some (.int .i64 7) := hg5 0 (by simp)
  have y1 : w6.cell? ⟨g5, 1, none⟩ = some (.int .i64 2) := hg5 1 (by simp)
  have y2 : w6.cell? ⟨g5, 2, none⟩ = some (.int .i64 3) := hg5 2 (by simp)
  obtain ⟨SA, hSA⟩ : ∃ SA, SA = ByteArray.mk [97].toArray := ⟨_, rfl⟩
  have s1 : (convert 39 9 (.slice A 1 c)).run Try.prog w6 = .ok (.string SA) w6 := by
    have h9 := Rd.str (P := Try.prog) (HS6.out.up2.rol (List.mem_singleton.2 rfl)) 39 9 5 Try.underlying39 Try.underlying5 Try.underlying9 c
    rw [hSA]
    exact h9
  have hcmp : (SA.toList == [97]) = true := by
    have h9 : SA.toList = [97] := by rw [hSA]; simp
    rw [h9]; rfl
  clear hSA hg6 hg5
  go_wp2_with (go_at_call 27; (with_reducible refine (num3_any _ _).mono ?_); rintro e wx ⟨rfl, rfl⟩)
  go_ret
  exact ⟨rfl, HS6.out.right.right.right.right.right.right⟩
end
end Go.Proofs.Ytjmapbhgjhlefaa
namespace Go.Proofs.Ytjmapbhgjhlefaa
open Go.RowKit
set_option linter.unusedVariables false
set_option maxRecDepth 100000

section
variable {w0 w : World} {F : SP} {s d n m : Nat} {D D' : Dk} {S S' : Spc} {sf : Nat → Nat} {lim : Nat} {f : Fl} {r : Int} {p : List UInt8}
theorem ap_none {n : Int} (h : S.find n = none) : S.append n p D = (S, D, 34) := by unfold Spc.append; rw [h]
theorem ap_long {n : Int} (h : S.find n = some f) (h2 : 480 < p.length) : S.append n p D = (S, D, 35) := by unfold Spc.append; rw [h]; simp only; rw [if_pos h2]
theorem ap_full {n : Int} (h : S.find n = some f) (h2 : p.length ≤ 480) (h3 : f.frames.length = f.blocks) : S.append n p D = (S, D, 36) := by unfold Spc.append; rw [h]; simp only; rw [if_neg (by omega), if_pos h3]
/-- Bounds of what is added. -/
def FiOk (f : Fi) : Prop := (-9223372036854775808 ≤ f.num ∧ f.num ≤ 9223372036854775807) ∧ (-9223372036854775808 ≤ f.blocks ∧ f.blocks ≤ 9223372036854775807)
/-- Files are added, numbers dropped, both written out. -/
theorem sw_lits (B1 B2 n1 c1 n2 c2 : Nat) (cs ds : Array Value) (add : List Fi) (drop : List Int) (hg : Good D S sf lim) (hlim : lim + 1 ≤ 1000000000) (hc : Cnt D n) (hn : n ≤ 999999999) (ha : D.armed ≤ 9223372036854775807)
    (h : Sat w0 (Pt B1 35 cs * (Pt B2 3 ds * (SpaceP s d S * (Disk d D * F)))) w) (hcs : cs.toList = add.flatMap fiI) (hds : ds.toList = drop.map (Value.int .i64)) (hn1 : add.length = n1) (hn2 : drop.length = n2) (hl1 : n1 ≤ 1000000) (hl2 : n2 ≤ c2 ∧ n2 ≤ 1000000)
    (hb : ∀ f ∈ add, FiOk f) (hbd : ∀ n ∈ drop, -9223372036854775808 ≤ n ∧ n ≤ 9223372036854775807) (hr : S.switch add drop D = (S', D', r)) :
    Calls Try.prog 17 #[.pointer (some ⟨s, 0, none⟩), .slice (some ⟨B1, 0, none⟩) n1 c1, .slice (some ⟨B2, 0, none⟩) n2 c2] w fun e w' => e = .returned (.int .i64 r) ∧ Sat w0 (SpaceP s d S' * (Disk d D' * F)) w' := by
  subst hn1; subst hn2
  have h2 := switch_sp (some ⟨B1, 0, none⟩) c1 add (some ⟨B2, 0, none⟩) c2 drop hg hlim (F := Pt B1 35 cs * (Pt B2 3 ds * F)) (h.of (by ac_rfl)) (fun W hW => lit_fi hW hcs) (fun W hW => lit_fi hW.right hds) hl1 hl2.2 hl2.1 hb hbd (by have := hc.writes; omega) (by have := hc.pend; omega) ha
  rw [hr] at h2
  exact h2.mono fun e w' ⟨k1, k2⟩ => ⟨k1, k2.up3.right.up3.right⟩
theorem sw_add (B1 n1 c1 : Nat) (cs : Array Value) (add : List Fi) (hg : Good D S sf lim) (hlim : lim + 1 ≤ 1000000000) (hc : Cnt D n) (hn : n ≤ 999999999) (ha : D.armed ≤ 9223372036854775807)
    (h : Sat w0 (Pt B1 35 cs * (SpaceP s d S * (Disk d D * F))) w) (hcs : cs.toList = add.flatMap fiI) (hn1 : add.length = n1) (hl1 : n1 ≤ 1000000)
    (hb : ∀ f ∈ add, FiOk f) (hr : S.switch add [] D = (S', D', r)) :
    Calls Try.prog 17 #[.pointer (some ⟨s, 0, none⟩), .slice (some ⟨B1, 0, none⟩) n1 c1, .slice none 0 0] w fun e w' => e = .returned (.int .i64 r) ∧ Sat w0 (SpaceP s d S' * (Disk d D' * F)) w' := by
  subst hn1
  have h2 := switch_sp (some ⟨B1, 0, none⟩) c1 add none 0 [] hg hlim (F := Pt B1 35 cs * F) (h.of (by ac_rfl)) (fun W hW => lit_fi hW hcs) (fun _ _ hne => absurd rfl hne) hl1 (by simp) (by simp) hb (by simp) (by have := hc.writes; omega) (by have := hc.pend; omega) ha
  rw [hr] at h2
  exact h2.mono fun e w' ⟨k1, k2⟩ => ⟨k1, k2.up3.right⟩
theorem sw_drop (B2 n2 c2 : Nat) (ds : Array Value) (drop : List Int) (hg : Good D S sf lim) (hlim : lim + 1 ≤ 1000000000) (hc : Cnt D n) (hn : n ≤ 999999999) (ha : D.armed ≤ 9223372036854775807)
    (h : Sat w0 (Pt B2 3 ds * (SpaceP s d S * (Disk d D * F))) w) (hds : ds.toList = drop.map (Value.int .i64)) (hn2 : drop.length = n2) (hl2 : n2 ≤ c2 ∧ n2 ≤ 1000000)
    (hbd : ∀ n ∈ drop, -9223372036854775808 ≤ n ∧ n ≤ 9223372036854775807) (hr : S.switch [] drop D = (S', D', r)) :
    Calls Try.prog 17 #[.pointer (some ⟨s, 0, none⟩), .slice none 0 0, .slice (some ⟨B2, 0, none⟩) n2 c2] w fun e w' => e = .returned (.int .i64 r) ∧ Sat w0 (SpaceP s d S' * (Disk d D' * F)) w' := by
  subst hn2
  have h2 := switch_sp none 0 [] (some ⟨B2, 0, none⟩) c2 drop hg hlim (F := Pt B2 3 ds * F) (h.of (by ac_rfl)) (fun _ _ hne => absurd rfl hne) (fun W hW => lit_fi hW hds) (by simp) hl2.2 hl2.1 (by simp) hbd (by have := hc.writes; omega) (by have := hc.pend; omega) ha
  rw [hr] at h2
  exact h2.mono fun e w' ⟨k1, k2⟩ => ⟨k1, k2.up3.right⟩
theorem sw_row (A1 : Option Addr) (n1 c1 : Nat) (add : List Fi) (hg : Good D S sf lim) (hlim : lim + 1 ≤ 1000000000) (hc : Cnt D n) (hn : n ≤ 999999999) (ha : D.armed ≤ 9223372036854775807)
    (h : Sat w0 (SpaceP s d S * (Disk d D * F)) w) (hA : ∀ W, Sat w0 F W → RdV W A1 (add.flatMap fiI)) (hn1 : add.length = n1) (hl1 : n1 ≤ 1000000) (hb : ∀ f ∈ add, FiOk f) (hr : S.switch add [] D = (S', D', r)) :
    Calls Try.prog 17 #[.pointer (some ⟨s, 0, none⟩), .slice A1 n1 c1, .slice none 0 0] w fun e w' => e = .returned (.int .i64 r) ∧ Sat w0 (SpaceP s d S' * (Disk d D' * F)) w' := by
  subst hn1
  have h2 := switch_sp A1 c1 add none 0 [] hg hlim h hA (fun _ _ hne => absurd rfl hne) hl1 (by simp) (by simp) hb (by simp) (by have := hc.writes; omega) (by have := hc.pend; omega) ha
  rw [hr] at h2
  exact h2
theorem ap_at (n0 : Int) (A : Option Addr) (c k : Nat) (hg : Good D S sf lim) (hc : Cnt D n) (hn : n ≤ 999999999) (ha : D.armed ≤ 9223372036854775807) (h : Sat w0 (SpaceP s d S * (Disk d D * F)) w) (hp : ∀ W, Sat w0 F W → Rd W A p) (hk : p.length = k) (hr : S.append n0 p D = (S', D', r)) :
    Calls Try.prog 29 #[.pointer (some ⟨s, 0, none⟩), .int .i64 n0, .slice A k c] w fun e w' => e = .returned (.int .i64 r) ∧ Sat w0 (SpaceP s d S' * (Disk d D' * F)) w' := by
  subst hk
  have h2 := append_sp n0 A c p hg h hp (by have := hc.writes; omega) (by have := hc.pend; omega) ha
  rw [hr] at h2
  exact h2
end
end Go.Proofs.Ytjmapbhgjhlefaa
namespace Go.Proofs.Ytjmapbhgjhlefaa
set_option linter.unusedVariables false

theorem and1 (n : Int) : bits .and .i64 n 1 = n % 2 := by
  have h1 : (BitVec.ofInt 64 1).toNat = 2 ^ 1 - 1 := by decide
  have key : (BitVec.ofInt 64 n &&& BitVec.ofInt 64 1).toNat = (n % ((2 ^ 64 : Nat) : Int)).toNat % 2 ^ 1 := by
    rw [BitVec.toNat_and, BitVec.toNat_ofInt, h1, Nat.and_two_pow_sub_one_eq_mod]
  show IntKind.i64.wrap ((BitVec.ofInt 64 n &&& BitVec.ofInt 64 1).toNat : Nat) = n % 2
  rw [key, IntKind.wrap_i64]
  omega
theorem and3 (n : Int) : bits .and .i64 n 3 = n % 4 := by
  have h1 : (BitVec.ofInt 64 3).toNat = 2 ^ 2 - 1 := by decide
  have key : (BitVec.ofInt 64 n &&& BitVec.ofInt 64 3).toNat = (n % ((2 ^ 64 : Nat) : Int)).toNat % 2 ^ 2 := by
    rw [BitVec.toNat_and, BitVec.toNat_ofInt, h1, Nat.and_two_pow_sub_one_eq_mod]
  show IntKind.i64.wrap ((BitVec.ofInt 64 n &&& BitVec.ofInt 64 3).toNat : Nat) = n % 4
  rw [key, IntKind.wrap_i64]
  omega
theorem and7 (n : Int) : bits .and .i64 n 7 = n % 8 := by
  have h1 : (BitVec.ofInt 64 7).toNat = 2 ^ 3 - 1 := by decide
  have key : (BitVec.ofInt 64 n &&& BitVec.ofInt 64 7).toNat = (n % ((2 ^ 64 : Nat) : Int)).toNat % 2 ^ 3 := by
    rw [BitVec.toNat_and, BitVec.toNat_ofInt, h1, Nat.and_two_pow_sub_one_eq_mod]
  show IntKind.i64.wrap ((BitVec.ofInt 64 n &&& BitVec.ofInt 64 7).toNat : Nat) = n % 8
  rw [key, IntKind.wrap_i64]
  omega
theorem and15 (n : Int) : bits .and .i64 n 15 = n % 16 := by
  have h1 : (BitVec.ofInt 64 15).toNat = 2 ^ 4 - 1 := by decide
  have key : (BitVec.ofInt 64 n &&& BitVec.ofInt 64 15).toNat = (n % ((2 ^ 64 : Nat) : Int)).toNat % 2 ^ 4 := by
    rw [BitVec.toNat_and, BitVec.toNat_ofInt, h1, Nat.and_two_pow_sub_one_eq_mod]
  show IntKind.i64.wrap ((BitVec.ofInt 64 n &&& BitVec.ofInt 64 15).toNat : Nat) = n % 16
  rw [key, IntKind.wrap_i64]
  omega
theorem and31 (n : Int) : bits .and .i64 n 31 = n % 32 := by
  have h1 : (BitVec.ofInt 64 31).toNat = 2 ^ 5 - 1 := by decide
  have key : (BitVec.ofInt 64 n &&& BitVec.ofInt 64 31).toNat = (n % ((2 ^ 64 : Nat) : Int)).toNat % 2 ^ 5 := by
    rw [BitVec.toNat_and, BitVec.toNat_ofInt, h1, Nat.and_two_pow_sub_one_eq_mod]
  show IntKind.i64.wrap ((BitVec.ofInt 64 n &&& BitVec.ofInt 64 31).toNat : Nat) = n % 32
  rw [key, IntKind.wrap_i64]
  omega
theorem and63 (n : Int) : bits .and .i64 n 63 = n % 64 := by
  have h1 : (BitVec.ofInt 64 63).toNat = 2 ^ 6 - 1 := by decide
  have key : (BitVec.ofInt 64 n &&& BitVec.ofInt 64 63).toNat = (n % ((2 ^ 64 : Nat) : Int)).toNat % 2 ^ 6 := by
    rw [BitVec.toNat_and, BitVec.toNat_ofInt, h1, Nat.and_two_pow_sub_one_eq_mod]
  show IntKind.i64.wrap ((BitVec.ofInt 64 n &&& BitVec.ofInt 64 63).toNat : Nat) = n % 64
  rw [key, IntKind.wrap_i64]
  omega
theorem and1023 (n : Int) : bits .and .i64 n 1023 = n % 1024 := by
  have h1 : (BitVec.ofInt 64 1023).toNat = 2 ^ 10 - 1 := by decide
  have key : (BitVec.ofInt 64 n &&& BitVec.ofInt 64 1023).toNat = (n % ((2 ^ 64 : Nat) : Int)).toNat % 2 ^ 10 := by
    rw [BitVec.toNat_and, BitVec.toNat_ofInt, h1, Nat.and_two_pow_sub_one_eq_mod]
  show IntKind.i64.wrap ((BitVec.ofInt 64 n &&& BitVec.ofInt 64 1023).toNat : Nat) = n % 1024
  rw [key, IntKind.wrap_i64]
  omega
end Go.Proofs.Ytjmapbhgjhlefaa
namespace Go.Proofs.Ytjmapbhgjhlefaa
open Go.ChangeShapes Go.WideShapes Go.ChangeAt Go.RowKit Go.Deep
set_option linter.unusedVariables false
set_option maxRecDepth 100000

/-- No string, slice or map of what d holds is larger than the form's reach. -/
def Sized {H : Type} (P : Program) (t : TypeId) (d : DataW H) : Prop := ∀ n ∈ d.weights P t, n ≤ reachBytes
theorem reach_val : reachBytes = 140737488351232 := by decide
section
variable {H : Type} {P : Program}
theorem sized_of {ts : List TypeId} {ds : List (DataW H)} (h : (DataW.weightsEach P ts ds).all (· ≤ reachBytes) = true) {j : Nat} {t : TypeId} {d : DataW H} (ht : ts[j]? = some t) (hd : ds[j]? = some d) : Sized P t d := fun n hn => by
  simpa using List.all_eq_true.1 h n (DataW.weights_mem_each ht hd n hn)
theorem weightsAll_mem {e : TypeId} {d : DataW H} {n : Nat} (hn : n ∈ d.weights P e) : ∀ {l : List (DataW H)}, d ∈ l → n ∈ DataW.weightsAll P e l
  | [], h => by cases h
  | x :: l, h => by
    simp only [DataW.weightsAll, List.mem_append]
    rcases List.mem_cons.1 h with rfl | h
    · exact .inl hn
    · exact .inr (weightsAll_mem hn h)
theorem Sized.len {t e : TypeId} {elems spare : List (DataW H)} (h : Sized P t (.slice elems spare)) (hu : P.underlying t = some (.slice e)) : (elems.length + spare.length) * P.bytesOf e ≤ reachBytes :=
  h _ (by simp [DataW.weights, hu])
theorem Sized.elem {t e : TypeId} {elems spare : List (DataW H)} (h : Sized P t (.slice elems spare)) (hu : P.underlying t = some (.slice e)) {d : DataW H} (hd : d ∈ elems) : Sized P e d := fun n hn =>
  h n (by simp only [DataW.weights, hu]; exact List.mem_cons_of_mem _ (List.mem_append_left _ (weightsAll_mem hn hd)))

variable {enc : TypeId × Value → H} {w : World} {base : Nat} {spare : Nat → Bool} {held : Bool}
theorem rdv_of_add {a : Addr} {xs : List Value} (h : ∀ j (hj : j < xs.length), w.cell? (a.add j) = some xs[j]) : RdV w (some a) xs := fun hx => by
  obtain ⟨b, o, s⟩ := a
  have h0 := h 0 (List.length_pos_iff.2 hx)
  rw [Addr.add_zero'] at h0
  have hs := World.cell?_spot h0
  simp at hs
  subst hs
  exact ⟨b, o, rfl, fun j hj => by rw [← h j hj, Addr.add_lit]⟩

/-- A row of bytes. -/
theorem open_bytes {t e : TypeId} {fuel : Nat} {cs : List Value} {x : DataW H × List MemPlace} (ht : P.underlying t = some (.slice e)) (he : P.underlying e = some (.int .u8)) (hc : P.cellsOf e = 1) (hb : P.bytesOf e = 1)
    (h : DataW.trod enc P w base spare held fuel t cs = some x) (hz : Sized P t x.1) :
    ∃ A c l, cs = [.slice A l.length c] ∧ l.length ≤ c ∧ c ≤ maxLen ∧ Rd w A l ∧ l.length ≤ 140737488351232 ∧ (A = none → c = 0) := by
  rcases open_ints ht he hc h with ⟨rfl, _⟩ | ⟨a, len, cap, zs, rfl, _, hl, hm, hzl, hx, hcell, hwf⟩
  · exact ⟨none, 0, [], rfl, Nat.le_refl _, Nat.zero_le _, Rd.nil _ _, by simp, fun _ => rfl⟩
  · have hlz : len ≤ zs.length := by rw [hzl]; split <;> omega
    subst hx
    have hsz := Sized.len hz ht
    simp only [lits, List.length_map, List.length_take, List.length_drop, hb, reach_val] at hsz
    refine ⟨some a, cap, (zs.take len).map fun n => UInt8.ofNat n.toNat, by simp [Nat.min_eq_left hlz], by simp; omega, hm, rdv_of_add fun j hj => ?_, by simp; omega, fun e => by cases e⟩
    simp at hj
    rw [hcell j (by omega)]
    have hb := bounds_u8 (hwf (zs.getD j 0) (by rw [List.getD_eq_getElem?_getD, List.getElem?_eq_getElem (by omega)]; exact List.getElem_mem _))
    simp only [List.getElem_map, List.getElem_take, bv]
    rw [List.getD_eq_getElem?_getD, List.getElem?_eq_getElem (by omega)] at hb ⊢
    simp only [Option.getD_some] at hb ⊢
    have : ((UInt8.ofNat zs[j].toNat).toNat : Int) = zs[j] := by
      rw [UInt8.toNat_ofNat', Nat.mod_eq_of_lt (by omega)]; omega
    rw [this]

/-- A row of integers. -/
theorem open_words {t e : TypeId} {fuel : Nat} {cs : List Value} {x : DataW H × List MemPlace} (ht : P.underlying t = some (.slice e)) (he : P.underlying e = some (.int .i64)) (hc : P.cellsOf e = 1) (hb : P.bytesOf e = 8)
    (h : DataW.trod enc P w base spare held fuel t cs = some x) (hz : Sized P t x.1) :
    ∃ (A : Option Addr) (c : Nat) (l : List Int), cs = [.slice A l.length c] ∧ l.length ≤ c ∧ c ≤ maxLen ∧ RdV w A (l.map fun n => .int .i64 n) ∧ l.length ≤ 17592186043904 ∧ ∀ n ∈ l, -9223372036854775808 ≤ n ∧ n ≤ 9223372036854775807 := by
  rcases open_ints ht he hc h with ⟨rfl, _⟩ | ⟨a, len, cap, zs, rfl, _, hl, hm, hzl, hx, hcell, hwf⟩
  · exact ⟨none, 0, [], rfl, Nat.le_refl _, Nat.zero_le _, RdV.nil _ _, by simp, by simp⟩
  · have hlz : len ≤ zs.length := by rw [hzl]; split <;> omega
    subst hx
    have hsz := Sized.len hz ht
    simp only [lits, List.length_map, List.length_take, List.length_drop, hb, reach_val] at hsz
    refine ⟨some a, cap, zs.take len, by simp [Nat.min_eq_left hlz], by simp; omega, hm, rdv_of_add fun j hj => ?_, by simp; omega, fun n hn => bounds_i64 (hwf n (List.mem_of_mem_take hn))⟩
    simp at hj
    rw [hcell j (by omega)]
    simp only [List.getElem_map, List.getElem_take]
    rw [List.getD_eq_getElem?_getD, List.getElem?_eq_getElem (by omega)]
    rfl

/-- A list of rows of bytes. -/
theorem open_rows {t e q : TypeId} {fuel : Nat} {cs : List Value} {x : DataW H × List MemPlace} (ht : P.underlying t = some (.slice e)) (he : P.underlying e = some (.slice q)) (hq : P.underlying q = some (.int .u8))
    (ce : P.cellsOf e = 1) (cq : P.cellsOf q = 1) (hb : P.bytesOf q = 1) (hbe : P.bytesOf e = 24) (h : DataW.trod enc P w base spare held fuel t cs = some x) (hz : Sized P t x.1) :
    ∃ A c ks, cs = [.slice A ks.length c] ∧ ks.length ≤ c ∧ c ≤ maxLen ∧ RdL w A ks ∧ ks.length ≤ 5864062014634 ∧ (∀ k ∈ ks, k.2.2.length ≤ 140737488351232 ∧ k.2.2.length ≤ k.2.1 ∧ k.2.1 ≤ maxLen) := by
  rcases open_slice1 ht ce h with ⟨rfl, _⟩ | ⟨a, len, cap, m, n, V, D, Pl, rfl, _, hl, hm, hmm, hx, hi⟩
  · exact ⟨none, 0, [], rfl, Nat.le_refl _, Nat.zero_le _, RdL.nil _ _, by simp, by simp⟩
  · have hlm : len ≤ m := by rw [hmm]; split <;> omega
    subst hx
    have hsz := Sized.len hz ht
    simp only [List.length_map, List.length_range, hbe, reach_val] at hsz
    have each : ∀ i, i < len → ∃ k : Option Addr × Nat × List UInt8, V i = slOf k ∧ Rd w k.1 k.2.2 ∧ k.2.2.length ≤ 140737488351232 ∧ k.2.2.length ≤ k.2.1 ∧ k.2.1 ≤ maxLen := fun i hil => by
      have hD : Sized P e (D i) := Sized.elem hz ht (List.mem_map.2 ⟨i, List.mem_range.2 hil, rfl⟩)
      obtain ⟨A, c, l, h1, h2, h3, h4, h5, _⟩ := open_bytes he hq cq hb (hi i (by omega)).2 hD
      exact ⟨(A, c, l), by simpa [slOf] using h1, h4, h5, h2, h3⟩
    obtain ⟨f, hf⟩ := choose_lt each
    refine ⟨some a, cap, (List.range len).map f, by simp, by simpa using hl, hm, ⟨rdv_of_add fun j hj => ?_, fun k hk => ?_⟩, by simp; omega, fun k hk => ?_⟩
    · simp at hj
      rw [(hi j (by omega)).1, (hf j hj).1]
      simp
    · obtain ⟨j, hj, rfl⟩ := List.mem_map.1 hk
      exact (hf j (List.mem_range.1 hj)).2.1
    · obtain ⟨j, hj, rfl⟩ := List.mem_map.1 hk
      exact (hf j (List.mem_range.1 hj)).2.2
end
end Go.Proofs.Ytjmapbhgjhlefaa
