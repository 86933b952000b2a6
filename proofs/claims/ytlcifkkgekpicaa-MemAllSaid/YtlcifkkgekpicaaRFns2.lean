/- The document's Range and Get. -/
import Derived.Test.YtlcifkkgekpicaaRFns
namespace Go.Proofs.Ytlcifkkgekpicaa
open Go.RowKit
set_option linter.unusedVariables false

/-- What a range lets in. -/
def inR (fl tl : List UInt8) (x : Ent) : Bool := !Op.bytesLess x.key fl && (decide (tl = []) || Op.bytesLess x.key tl)
def rngL (fl tl : List UInt8) (L : List Ent) : List Ent := L.filter (inR fl tl)
theorem rng_next {fl tl : List UInt8} {L : List Ent} {k : Nat} (h : k < L.length) : rngL fl tl (L.take (k + 1)) = if inR fl tl L[k] then rngL fl tl (L.take k) ++ [L[k]] else rngL fl tl (L.take k) := by
  unfold rngL
  rw [List.take_succ_eq_append_getElem h, List.filter_append]
  by_cases q : inR fl tl L[k] = true
  · rw [if_pos q, List.filter_cons, if_pos q]; rfl
  · rw [if_neg q, List.filter_cons, if_neg q]; simp
theorem str_less (l m : List UInt8) : ∃ (SA SB : ByteArray) (B : Bool), SA = ByteArray.mk l.toArray ∧ SB = ByteArray.mk m.toArray ∧ Op.bytesLess SA.toList SB.toList = B ∧ B = Op.bytesLess l m := ⟨_, _, _, rfl, rfl, rfl, by simp⟩
/-- What holds in the rounds of a row that is made of what is read. -/
structure Mrd (w : World) (es : List En) (L : List Ent) (fs : List En) (A : Option Addr) (c k : Nat) (wr : World) : Prop where
  eq : fs.map En.ent = L
  mem : ∀ x ∈ fs, x ∈ es
  len : fs.length ≤ k
  sat : Sat w (Row 24 4 (.slice A fs.length c) fs.length (fs.flatMap enV) * Emp) wr
theorem Mrd.done {w wr : World} {es : List En} {L : List Ent} {fs : List En} {A : Option Addr} {c k : Nat} (h : Mrd w es L fs A c k wr) (hr : EnsR w es) : AllE w L (.returned (.slice A fs.length c)) wr := by
  obtain ⟨A', c', e, h1, h2, _⟩ := h.sat.row_form
  injection e with e1 _ e2
  subst e1; subst e2
  exact ⟨fs, A, c, rfl, h.eq, h1, h2, Sat.row_rdK (h := h.sat), fun x hx => (hr x (h.mem x hx)).new h.sat.chg, h.sat.chg⟩
set_option maxHeartbeats 4000000 in
theorem rrange_any (A : Option Addr) (c : Nat) (es : List En) (F T : Slc) (w : World) (h : RdV w A (es.flatMap enV)) (hr : EnsR w es) (hf : Rd w F.1 F.2.2) (ht : Rd w T.1 T.2.2) (hc : es.length ≤ c) (hm : c ≤ maxLen) (hn : es.length ≤ 1000000) :
    Calls Try.prog 29 #[.slice A es.length c, .slice F.1 F.2.2.length F.2.1, .slice T.1 T.2.2.length T.2.1] w (AllE w (rngL F.2.2 T.2.2 (es.map En.ent))) := by
  obtain ⟨fp, fc, fl⟩ := F
  obtain ⟨tp, tc, tl⟩ := T
  have HL := Lib.hid h
  have HR := Lib.hid hr
  have HF : Hid (Rd w fp fl) := hf
  have HT : Hid (Rd w tp tl) := ht
  unfold maxLen at hm
  obtain ⟨i0, hi0, hz0, hz1, hz2⟩ := info_parts info_entry2
  have Hi0 := Lib.hid hi0; have Hz0 := Lib.hid hz0; have Hz1 := Lib.hid hz1; have Hz2 := Lib.hid hz2
  obtain ⟨L, hL⟩ : ∃ L, L = es.map En.ent := ⟨_, rfl⟩
  have hLl : L.length = es.length := by rw [hL]; simp
  have HLl := Lib.hid hLl
  have HLi : Hid (∀ i (h : i < L.length) (h' : i < es.length), L[i] = es[i].ent) := by intro i h h'; subst hL; simp
  rw [← hL]
  clear h hr hf ht hi0 hz0 hz1 hz2 hL hLl
  show Calls _ _ #[_, .slice fp fl.length fc, .slice tp tl.length tc] w (AllE w (rngL fl tl L))
  by_cases h0 : tl = []
  case' pos =>
    have HZ : Hid (∀ x : Ent, inR fl tl x = !Op.bytesLess x.key fl) := by intro x; unfold inR; rw [decide_eq_true h0]; simp
    rw [show tl.length = 0 by rw [h0]; rfl]
    have h1 : True := trivial
    clear h0
  case' neg =>
    have HZ : Hid (∀ x : Ent, inR fl tl x = (!Op.bytesLess x.key fl && Op.bytesLess x.key tl)) := by intro x; unfold inR; rw [decide_eq_false h0]; simp
    have h1 : ¬ tl.length = 0 := by simpa using h0
    have h2 : ((tl.length : Int) == 0) = false := by simp; omega
    clear h0
  all_goals
    go_enter Try.func29, Try.ntmps29
    go_wp2_with fail
    go_loopw [7, 8] (fun out i wr => ∃ (k : Nat) (fs : List En) (A2 : Option Addr) (c2 : Nat), k ≤ es.length ∧ i = .int .i64 k ∧ out = .slice A2 fs.length c2 ∧ Hid (Mrd w es (rngL fl tl (L.take k)) fs A2 c2 k wr)) (fun _ i _ => es.length - (intOf i).toNat)
    case atStart => exact ⟨0, [], none, 0, by omega, rfl, rfl, rfl, by simp, by simp, (Sat.start w).row_nil _ 4⟩
    case round =>
      obtain ⟨k, fs, A2, c2, hk, rfl, rfl, HD⟩ := hrel
      by_cases hlt : k < es.length
      · obtain ⟨lb, lo, hA, hqq⟩ := ents_at HL.out (by omega)
        obtain ⟨z0, z1, z2, z3⟩ := hqq k hlt
        have a0 := HD.out.sat.chg.cell z0 id; have a1 := HD.out.sat.chg.cell z1 id; have a2 := HD.out.sat.chg.cell z2 id; have a3 := HD.out.sat.chg.cell z3 id
        subst hA
        unfold slv' at a0 a1
        have hkL : k < L.length := by rw [HLl.out]; exact hlt
        have HN := Lib.hid (rng_next (fl := fl) (tl := tl) hkL)
        have HLk := Lib.hid (HLi.out k hkL hlt)
        have hfl : fs.length ≤ 1000000 := by have := HD.out.len; omega
        obtain ⟨SI, SF, B1, e1, e2, e3, e4⟩ := str_less es[k].key.2.2 fl
        obtain ⟨SI', ST, B2, g1, g2, g3, g4⟩ := str_less es[k].key.2.2 tl
        have hSS : SI' = SI := g1.trans e1.symm
        subst hSS
        have s1 := fun n => str_any ((HR.out _ (List.getElem_mem hlt)).1.new (HD.out.sat.chg.drewN n)) es[k].key.2.1
        have s2 := fun n => str_any (HF.out.new (HD.out.sat.chg.drewN n)) fc
        have s3 := fun n => str_any (HT.out.new (HD.out.sat.chg.drewN n)) tc
        simp only [← e1] at s1
        simp only [← e2] at s2
        simp only [← g2] at s3
        have HB1 : Hid (Op.bytesLess L[k].key fl = B1) := by unfold Hid; rw [HLk.out, e4]; rfl
        have HB2 : Hid (Op.bytesLess L[k].key tl = B2) := by unfold Hid; rw [HLk.out, g4]; rfl
        have HIn := Lib.hid (HZ.out L[k])
        clear hqq z0 z1 z2 z3 e1 e2 e4 g1 g2 g4
        cases B1 <;> cases B2
        all_goals first
          | (have HI : Hid (inR fl tl L[k] = true) := by unfold Hid; rw [HIn.out, HB1.out]; first | rfl | (rw [HB2.out]; rfl)
             have HN2 : Hid (rngL fl tl (L.take (k + 1)) = rngL fl tl (L.take k) ++ [es[k].ent]) := by unfold Hid; rw [HN.out, if_pos HI.out, HLk.out]
             go_wp2_with fail
             go_quiet (fail)
             go_wp2_with (at_builtin; refine wpList_appS rfl (.tmp 40) (.tmp 45) 25 rfl 24 i0 _ 4 64 Try.underlying25 Hi0.out Hz0.out Hz1.out Hz2.out rfl (by decide) (.slice A2 fs.length c2) fs.length (fs.flatMap enV) rfl w _ (by exact (HD.out.sat.drewN _).alloc' _) (some ⟨wr.heap.size, 0, none⟩) 1 1 (enV es[k]) rfl (lit_rdv _ _ _) rfl (by have := ent_ones [es[k]]; simpa using this) (by unfold maxLen; omega) (by omega) ?_; intro A3 c3 w7 hs7; have HS7 := Lib.hid hs7; clear hs7)
             go_roundw
             · exact ⟨k + 1, fs ++ [es[k]], A3, c3, by omega, by push_cast; rfl, by rw [snoc_len], by rw [HN2.out, List.map_append, HD.out.eq]; rfl, fun x hx => (List.mem_append.1 hx).elim (HD.out.mem x) (fun hx => by simp at hx; subst hx; exact List.getElem_mem _), by have := HD.out.len; rw [snoc_len]; omega, by rw [snoc_len, ents_app]; simpa using HS7.out⟩
             · simp [intOf]; omega)
          | (have HI : Hid (inR fl tl L[k] = false) := by unfold Hid; rw [HIn.out, HB1.out]; first | rfl | (rw [HB2.out]; rfl)
             have HN2 : Hid (rngL fl tl (L.take (k + 1)) = rngL fl tl (L.take k)) := by unfold Hid; rw [HN.out, HI.out]; rfl
             go_wp2_with fail
             go_quiet (fail)
             go_wp2_with fail
             go_roundw
             · exact ⟨k + 1, fs, A2, c2, by omega, by push_cast; rfl, rfl, by rw [HN2.out]; exact HD.out.eq, HD.out.mem, by have := HD.out.len; omega, HD.out.sat.drewN _⟩
             · simp [intOf]; omega)
      · have HN2 : Hid (rngL fl tl (L.take k) = rngL fl tl L) := by unfold Hid; rw [List.take_of_length_le (by rw [HLl.out]; omega)]
        go_wp2_with fail
        go_ret
        rw [← HN2.out]
        exact HD.out.done HR.out
/-- The first one of this key up to this number. -/
def mtB (key : List UInt8) (seq : Int) (x : Ent) : Bool := decide (x.key = key) && decide (x.seq ≤ seq)
theorem mtB_iff {key : List UInt8} {seq : Int} {x : Ent} : mtB key seq x = true ↔ mtE key seq x := by unfold mtB mtE; simp
def findE (key : List UInt8) (seq : Int) (L : List Ent) : Option Ent := L.find? (mtB key seq)
theorem get_find {key : List UInt8} {seq : Int} {L : List Ent} (hs : L.Pairwise LTE) : getL key seq L = findE key seq L := by
  unfold findE
  cases hf : L.find? (mtB key seq) with
  | none =>
    rcases bst_end key seq L with ⟨h1, _⟩ | ⟨h, h1, _⟩
    · exact h1
    · exfalso
      obtain ⟨s, e1, e2⟩ := pl_at (key := key) (seq := seq) h
      have hk : L[plN key seq L].key = key := by
        unfold getL at h1
        rw [e1] at h1
        by_cases q : L[plN key seq L].key = key
        · exact q
        · simp only [if_neg q] at h1; cases h1
      have := List.find?_eq_none.1 hf _ (List.getElem_mem h)
      exact this (mtB_iff.2 (not_mt e2 hk))
  | some x =>
    obtain ⟨hx, i, hi, hxi, hlow⟩ := List.find?_eq_some_iff_getElem.1 hf
    subst hxi
    obtain ⟨h1, h2, h3, h4⟩ := get_pl hs hi (mtB_iff.1 hx)
    rcases Nat.eq_or_lt_of_le h1 with q | q
    · rw [h3]
      congr 1
      congr
    · exfalso
      have hlo := hlow _ q
      obtain ⟨s, e1, e2⟩ := pl_at (key := key) (seq := seq) h2
      have hk : L[plN key seq L].key = key := by
        unfold getL at h3
        rw [e1] at h3
        by_cases q : L[plN key seq L].key = key
        · exact q
        · simp only [if_neg q] at h3; cases h3
      rw [mtB_iff.2 (not_mt e2 hk)] at hlo
      simp at hlo
theorem find_next {key : List UInt8} {seq : Int} {L : List Ent} {k : Nat} (h : k < L.length) (hlow : ∀ i (hi : i < L.length), i < k → mtB key seq L[i] = false) (hm : mtB key seq L[k] = true) : findE key seq L = some L[k] := by
  unfold findE
  exact List.find?_eq_some_iff_getElem.2 ⟨hm, k, h, rfl, fun j hj => by rw [hlow j (by omega) hj]; rfl⟩
theorem find_none {key : List UInt8} {seq : Int} {L : List Ent} (hlow : ∀ i (hi : i < L.length), mtB key seq L[i] = false) : findE key seq L = none := by
  unfold findE
  exact List.find?_eq_none.2 fun x hx => by
    obtain ⟨i, hi, rfl⟩ := List.mem_iff_getElem.1 hx
    rw [hlow i hi]; simp
set_option maxHeartbeats 4000000 in
theorem rget_any (A : Option Addr) (c : Nat) (es : List En) (K : Slc) (seq : Int) (w : World) (h : RdV w A (es.flatMap enV)) (hr : EnsR w es) (hk : Rd w K.1 K.2.2) (hc : es.length ≤ c) (hm : c ≤ maxLen) :
    Calls Try.prog 27 #[.slice A es.length c, .slice K.1 K.2.2.length K.2.1, .int .i64 seq] w fun x w' => (∃ g : En, x = .returned (.tuple #[.agg #[.slice g.key.1 g.key.2.2.length g.key.2.1, .slice g.value.1 g.value.2.2.length g.value.2.1, .int .i64 g.seq, .bool g.dead], .bool (findE K.2.2 seq (es.map En.ent)).isSome]) ∧ g.ent = (findE K.2.2 seq (es.map En.ent)).getD noE ∧ EnR w' g ∧ (g ∈ es ∨ g = ⟨(none, 0, []), (none, 0, []), 0, false⟩)) ∧ Chg No w w' := by
  obtain ⟨kp, kc, kl⟩ := K
  have HL := Lib.hid h
  have HR := Lib.hid hr
  have HK : Hid (Rd w kp kl) := hk
  unfold maxLen at hm
  obtain ⟨L, hL⟩ : ∃ L, L = es.map En.ent := ⟨_, rfl⟩
  have hLl : L.length = es.length := by rw [hL]; simp
  have HLl := Lib.hid hLl
  have HLi : Hid (∀ i (h : i < L.length) (h' : i < es.length), L[i] = es[i].ent) := by intro i h h'; subst hL; simp
  rw [← hL]
  have hs1 := (Sat.start w).allocAt (b := w.heap.size) 24 #[.slice none 0 0, .slice none 0 0, .int .i64 0, .bool false] rfl
  clear h hr hk hL hLl
  show Calls _ _ #[_, .slice kp kl.length kc, _] w (fun x w' => (∃ g : En, x = .returned (.tuple #[.agg #[.slice g.key.1 g.key.2.2.length g.key.2.1, .slice g.value.1 g.value.2.2.length g.value.2.1, .int .i64 g.seq, .bool g.dead], .bool (findE kl seq L).isSome]) ∧ g.ent = (findE kl seq L).getD noE ∧ EnR w' g ∧ (g ∈ es ∨ g = ⟨(none, 0, []), (none, 0, []), 0, false⟩)) ∧ Chg No w w')
  go_enter Try.func27, Try.ntmps27
  go_wp2_with fail
  revert hs1
  generalize w.alloc _ = W
  generalize w.heap.size = O
  intro hs1
  have HS1 := Lib.hid hs1
  clear hs1
  go_loopw [8] (fun i wr => ∃ k : Nat, k ≤ es.length ∧ i = .int .i64 k ∧ Hid ((∀ i (hi : i < L.length), i < k → mtB kl seq L[i] = false) ∧ Sat w (Pt O 24 #[.slice none 0 0, .slice none 0 0, .int .i64 0, .bool false] * Emp) wr)) (fun i _ => es.length - (intOf i).toNat)
  case atStart => exact ⟨0, by omega, rfl, fun i hi h => by omega, HS1.out⟩
  case round =>
    obtain ⟨k, hk, rfl, HD⟩ := hrel
    by_cases hlt : k < es.length
    · obtain ⟨lb, lo, hA, hqq⟩ := ents_at HL.out (by omega)
      obtain ⟨z0, z1, z2, z3⟩ := hqq k hlt
      have a0 := HD.out.2.chg.cell z0 id; have a1 := HD.out.2.chg.cell z1 id; have a2 := HD.out.2.chg.cell z2 id; have a3 := HD.out.2.chg.cell z3 id
      subst hA
      unfold slv' at a0 a1
      have hkL : k < L.length := by rw [HLl.out]; exact hlt
      have HLk := Lib.hid (HLi.out k hkL hlt)
      obtain ⟨SI, SK, B, e1, e2, e3, e4⟩ := str_two es[k].key.2.2 kl
      have s1 := fun n => str_any ((HR.out _ (List.getElem_mem hlt)).1.new (HD.out.2.chg.drewN n)) es[k].key.2.1
      have s2 := fun n => str_any (HK.out.new (HD.out.2.chg.drewN n)) kc
      simp only [← e1] at s1
      simp only [← e2] at s2
      have HB : Hid (mtB kl seq L[k] = (B && decide (es[k].seq ≤ seq))) := by unfold Hid mtB; rw [HLk.out, e4]; rfl
      have q0 := HD.out.2.cell 0; have q1 := HD.out.2.cell 1; have q2 := HD.out.2.cell 2; have q3 := HD.out.2.cell 3
      have f0 := HD.out.2.frozen 0; have f1 := HD.out.2.frozen 1; have f2 := HD.out.2.frozen 2; have f3 := HD.out.2.frozen 3
      clear hqq z0 z1 z2 z3 e1 e2 e4
      have next : mtB kl seq L[k] = false → ∀ i (hi : i < L.length), i < k + 1 → mtB kl seq L[i] = false := fun hf i hi h => if q : i = k then by subst q; exact hf else HD.out.1 i hi (by omega)
      have HNext := Lib.hid next
      clear next
      by_cases hseq : es[k].seq ≤ seq
      · have hd : decide (es[k].seq ≤ seq) = true := by simpa using hseq
        cases B with
        | true =>
          have HI : Hid (findE kl seq L = some L[k]) := find_next hkL HD.out.1 (by rw [HB.out, hd]; rfl)
          have h9 := (((HD.out.2.set 0 (.slice es[k].key.1 es[k].key.2.2.length es[k].key.2.1)).set 1 (.slice es[k].value.1 es[k].value.2.2.length es[k].value.2.1)).set 2 (.int .i64 es[k].seq)).set 3 (.bool es[k].dead)
          have HS9 : Hid (∀ n, Sat w _ _) := fun n : Nat => (((((HD.out.2.drewN n).set 0 (.slice es[k].key.1 es[k].key.2.2.length es[k].key.2.1)).set 1 (.slice es[k].value.1 es[k].value.2.2.length es[k].value.2.1)).set 2 (.int .i64 es[k].seq)).set 3 (.bool es[k].dead))
          clear h9
          go_wp2_with fail
          go_quiet (fail)
          go_wp2_with fail
          have h9 := HS9.out nq
          revert h9
          generalize World.setCell _ _ _ = w4
          intro h9
          refine bodyPost_ret (results_cell_tmp (p := 6) (q := 7) (by kernel_rfl) _ _ O 24 _ (0, 0) _ _ rfl rfl h9.at Try.underlying24 rfl (by kernel_rfl)) rfl ?_
          rw [HI.out]
          exact ⟨⟨es[k], rfl, HLk.out.symm, (HR.out _ (List.getElem_mem hlt)).new h9.chg, .inl (List.getElem_mem hlt)⟩, h9.chg⟩
        | false =>
          have HI : Hid (mtB kl seq L[k] = false) := by unfold Hid; rw [HB.out]; rfl
          go_wp2_with fail
          go_quiet (fail)
          go_wp2_with fail
          go_roundw
          · exact ⟨k + 1, by omega, by push_cast; rfl, HNext.out HI.out, HD.out.2.drewN _⟩
          · simp [intOf]; omega
      · have hd : decide (es[k].seq ≤ seq) = false := by simpa using hseq
        have HI : Hid (mtB kl seq L[k] = false) := by unfold Hid; rw [HB.out, hd]; simp
        have hsq3 : seq < es[k].seq := by omega
        cases B
        all_goals
          go_wp2_with fail
          go_quiet (fail)
          go_wp2_with fail
          go_roundw
          · exact ⟨k + 1, by omega, by push_cast; rfl, HNext.out HI.out, HD.out.2.drewN _⟩
          · simp [intOf]; omega
    · have HI : Hid (findE kl seq L = none) := find_none fun i hi => HD.out.1 i hi (by rw [HLl.out] at hi; omega)
      have q0 := HD.out.2.cell 0; have q1 := HD.out.2.cell 1; have q2 := HD.out.2.cell 2; have q3 := HD.out.2.cell 3
      have f0 := HD.out.2.frozen 0; have f1 := HD.out.2.frozen 1; have f2 := HD.out.2.frozen 2; have f3 := HD.out.2.frozen 3
      have h9 := (((HD.out.2.set 0 (.slice none 0 0)).set 1 (.slice none 0 0)).set 2 (.int .i64 0)).set 3 (.bool false)
      have HS9 := Lib.hid h9
      clear h9
      go_wp2_with fail
      have h9 := HS9.out
      revert h9
      generalize World.setCell _ _ _ = w4
      intro h9
      refine bodyPost_ret (results_cell_tmp (p := 6) (q := 7) (by kernel_rfl) _ _ O 24 _ (0, 0) _ _ rfl rfl h9.at Try.underlying24 rfl (by kernel_rfl)) rfl ?_
      rw [HI.out]
      exact ⟨⟨⟨(none, 0, []), (none, 0, []), 0, false⟩, rfl, rfl, ⟨Rd.nil _ _, Rd.nil _ _⟩, .inr rfl⟩, h9.chg⟩
end Go.Proofs.Ytlcifkkgekpicaa
