/- Joined, as they were built one by one: RFns RFns2 RngP Open Open2 MemOpen TabRowP. -/
import Derived.ProofKit
import Derived.SizedLaws
import Derived.OpenShut
import Derived.Deep.Slices
import Derived.Test.YtaoenbjfkahdjaaQ01
import Derived.Test.YtaoenbjfkahdjaaQ03
import Derived.Test.YtaoenbjfkahdjaaQ04
import Derived.Test.YtaoenbjfkahdjaaQ10
import Derived.Test.YtaoenbjfkahdjaaQ12
namespace Go.Proofs.Ytaoenbjfkahdjaa
open Go.RowKit
set_option linter.unusedVariables false
set_option maxRecDepth 100000

theorem byt_take {L : List Ent} {k : Nat} (h : k < L.length) : byt (L.take (k + 1)) = byt (L.take k) + (L[k].key.length + L[k].value.length) := by
  rw [List.take_succ_eq_append_getElem h, byt_app]
  rfl
theorem byt_bd {L : List Ent} {m : Nat} (h : ∀ x ∈ L, x.key.length + x.value.length ≤ m) : byt L ≤ L.length * m := by
  induction L with
  | nil => simp [byt]
  | cons x L ih =>
    have h1 := ih fun y hy => h y (List.mem_cons_of_mem _ hy)
    have h2 := h x List.mem_cons_self
    show x.key.length + x.value.length + byt L ≤ _
    rw [List.length_cons, Nat.add_mul]
    omega
/-- What a row reads as. -/
def RowE (w0 w : World) (S : SP) (L : List Ent) (x : Ending) (w' : World) : Prop := ∃ (fs : List En) (A : Option Addr) (c : Nat), x = .returned (.slice A fs.length c) ∧ fs.map En.ent = L ∧ fs.length ≤ c ∧ c ≤ maxLen ∧ RdV w' A (fs.flatMap enV) ∧ EnsR w' fs ∧ Sat w0 S w'
/-- What holds in the rounds of a row that is made. -/
structure Mst (w0 : World) (r : Nat) (vL vH : Value) (es : List En) (hs : List Nat) (F : SP) (L : List Ent) (fs : List En) (A : Option Addr) (c k : Nat) (wr : World) : Prop where
  eq : fs.map En.ent = L
  mem : ∀ x ∈ fs, x ∈ es
  len : fs.length ≤ k
  sat : Sat w0 (Row 34 4 (.slice A fs.length c) fs.length (fs.flatMap enV) * (RTabC r vL vH es hs * F)) wr
theorem Mst.done {w0 w wr : World} {r : Nat} {vL vH : Value} {es : List En} {hs : List Nat} {F : SP} {L : List Ent} {fs : List En} {A : Option Addr} {c k : Nat} (h : Mst w0 r vL vH es hs F L fs A c k wr) :
    RowE w0 w (RTab r es hs * F) L (.returned (.slice A fs.length c)) wr := by
  obtain ⟨A', c', e, h1, h2, _⟩ := h.sat.row_form
  injection e with e1 _ e2
  subst e1; subst e2
  exact ⟨fs, A, c, rfl, h.eq, h1, h2, Sat.row_rdK (h := h.sat), fun x hx => h.sat.right.rtabEnt (h.mem x hx), h.sat.right.rtabI⟩
/-- The level's entries, as far as they have come. -/
def levT (i : Int) (es : List En) (hs : List Nat) (k : Nat) : List Ent := ((((absR es hs).take k).filter fun p => decide (i < (p.2 : Int)))).map (·.1)
theorem levT_next {i : Int} {es : List En} {hs : List Nat} {k : Nat} (h : k < es.length) (h' : k < hs.length) : levT i es hs (k + 1) = if i < (hs[k] : Int) then levT i es hs k ++ [es[k].ent] else levT i es hs k := by
  unfold levT
  have hl : k < (absR es hs).length := by unfold absR; simp; omega
  have he : (absR es hs)[k] = (es[k].ent, hs[k]) := by
    have h1 : (absR es hs)[k]? = some (es[k].ent, hs[k]) := by
      unfold absR
      rw [List.getElem?_zip_eq_some]
      exact ⟨by simp [h], by simp [h']⟩
    rw [List.getElem?_eq_getElem hl] at h1
    exact Option.some.inj h1
  rw [List.take_succ_eq_append_getElem hl, List.filter_append, List.map_append, he]
  by_cases q : i < (hs[k] : Int)
  · rw [if_pos q, List.filter_cons, if_pos (by simpa using q)]; rfl
  · rw [if_neg q, List.filter_cons, if_neg (by simpa using q)]; simp
theorem snoc_len (fs : List En) (y : En) : (fs ++ [y]).length = fs.length + 1 := by simp
theorem info_entry2 : (Try.prog.info? 34).map (fun i => (i.zero, i.size, i.bytes)) = some (some (.agg #[.slice none 0 0, .slice none 0 0, .int .i64 0, .bool false]), 4, 64) := by kernel_rfl
end Go.Proofs.Ytaoenbjfkahdjaa
namespace Go.Proofs.Ytaoenbjfkahdjaa
open Go.RowKit
set_option linter.unusedVariables false
set_option maxRecDepth 100000

/-- What a range lets in. -/
def inR (fl tl : List UInt8) (x : Ent) : Bool := !Op.bytesLess x.key fl && (decide (tl = []) || Op.bytesLess x.key tl)
def rngL (fl tl : List UInt8) (L : List Ent) : List Ent := L.filter (inR fl tl)
theorem rng_next {fl tl : List UInt8} {L : List Ent} {k : Nat} (h : k < L.length) : rngL fl tl (L.take (k + 1)) = if inR fl tl L[k] then rngL fl tl (L.take k) ++ [L[k]] else rngL fl tl (L.take k) := by
  unfold rngL
  rw [List.take_succ_eq_append_getElem h, List.filter_append]
  by_cases q : inR fl tl L[k] = true
  · rw [if_pos q, List.filter_cons, if_pos q]; rfl
  · rw [if_neg q, List.filter_cons, if_neg q]; simp
theorem str_less (l m : List UInt8) : ∃ (SA SB : ByteArray) (B : Bool), SA = ByteArray.mk l.toArray ∧ SB = ByteArray.mk m.toArray ∧ Op.bytesLess SA.toList SB.toList = B ∧ B = Op.bytesLess l m := ⟨_, _, _, rfl, rfl, rfl, by simp⟩
/-- What holds in the rounds of a row that is made of what is read. -/
structure Mrd (w : World) (es : List En) (L : List Ent) (fs : List En) (A : Option Addr) (c k : Nat) (wr : World) : Prop where
  eq : fs.map En.ent = L
  mem : ∀ x ∈ fs, x ∈ es
  len : fs.length ≤ k
  sat : Sat w (Row 34 4 (.slice A fs.length c) fs.length (fs.flatMap enV) * Emp) wr
theorem Mrd.done {w wr : World} {es : List En} {L : List Ent} {fs : List En} {A : Option Addr} {c k : Nat} (h : Mrd w es L fs A c k wr) (hr : EnsR w es) : AllE w L (.returned (.slice A fs.length c)) wr := by
  obtain ⟨A', c', e, h1, h2, _⟩ := h.sat.row_form
  injection e with e1 _ e2
  subst e1; subst e2
  exact ⟨fs, A, c, rfl, h.eq, h1, h2, Sat.row_rdK (h := h.sat), fun x hx => (hr x (h.mem x hx)).new h.sat.chg, h.sat.chg⟩
set_option maxHeartbeats 4000000 in
theorem rrange_any (A : Option Addr) (c : Nat) (es : List En) (F T : Slc) (w : World) (h : RdV w A (es.flatMap enV)) (hr : EnsR w es) (hf : Rd w F.1 F.2.2) (ht : Rd w T.1 T.2.2) (hc : es.length ≤ c) (hm : c ≤ maxLen) (hn : es.length ≤ 1000000) :
    Calls Try.prog 39 #[.slice A es.length c, .slice F.1 F.2.2.length F.2.1, .slice T.1 T.2.2.length T.2.1] w (AllE w (rngL F.2.2 T.2.2 (es.map En.ent))) := by
  obtain ⟨fp, fc, fl⟩ := F
  obtain ⟨tp, tc, tl⟩ := T
  have HL := Lib.hid h
  have HR := Lib.hid hr
  have HF : Hid (Rd w fp fl) := hf
  have HT : Hid (Rd w tp tl) := ht
  unfold maxLen at hm
  obtain ⟨i0, hi0, hz0, hz1, hz2⟩ := info_parts info_entry2
  have Hi0 := Lib.hid hi0; have Hz0 := Lib.hid hz0; have Hz1 := Lib.hid hz1; have Hz2 := Lib.hid hz2
  obtain ⟨L, hL⟩ : ∃ L, L = es.map En.ent := ⟨_, rfl⟩
  have hLl : L.length = es.length := by rw [hL]; simp
  have HLl := Lib.hid hLl
  have HLi : Hid (∀ i (h : i < L.length) (h' : i < es.length), L[i] = es[i].ent) := by intro i h h'; subst hL; simp
  rw [← hL]
  clear h hr hf ht hi0 hz0 hz1 hz2 hL hLl
  show Calls _ _ #[_, .slice fp fl.length fc, .slice tp tl.length tc] w (AllE w (rngL fl tl L))
  by_cases h0 : tl = []
  case' pos =>
    have HZ : Hid (∀ x : Ent, inR fl tl x = !Op.bytesLess x.key fl) := by intro x; unfold inR; rw [decide_eq_true h0]; simp
    rw [show tl.length = 0 by rw [h0]; rfl]
    have h1 : True := trivial
    clear h0
  case' neg =>
    have HZ : Hid (∀ x : Ent, inR fl tl x = (!Op.bytesLess x.key fl && Op.bytesLess x.key tl)) := by intro x; unfold inR; rw [decide_eq_false h0]; simp
    have h1 : ¬ tl.length = 0 := by simpa using h0
    have h2 : ((tl.length : Int) == 0) = false := by simp; omega
    clear h0
  all_goals
    go_enter Try.func39, Try.ntmps39
    go_wp2_with fail
    go_loopw [7, 8] (fun out i wr => ∃ (k : Nat) (fs : List En) (A2 : Option Addr) (c2 : Nat), k ≤ es.length ∧ i = .int .i64 k ∧ out = .slice A2 fs.length c2 ∧ Hid (Mrd w es (rngL fl tl (L.take k)) fs A2 c2 k wr)) (fun _ i _ => es.length - (intOf i).toNat)
    case atStart => exact ⟨0, [], none, 0, by omega, rfl, rfl, rfl, by simp, by simp, (Sat.start w).row_nil _ 4⟩
    case round =>
      obtain ⟨k, fs, A2, c2, hk, rfl, rfl, HD⟩ := hrel
      by_cases hlt : k < es.length
      · obtain ⟨lb, lo, hA, hqq⟩ := ents_at HL.out (by omega)
        obtain ⟨z0, z1, z2, z3⟩ := hqq k hlt
        have a0 := HD.out.sat.chg.cell z0 id; have a1 := HD.out.sat.chg.cell z1 id; have a2 := HD.out.sat.chg.cell z2 id; have a3 := HD.out.sat.chg.cell z3 id
        subst hA
        unfold slv' at a0 a1
        have hkL : k < L.length := by rw [HLl.out]; exact hlt
        have HN := Lib.hid (rng_next (fl := fl) (tl := tl) hkL)
        have HLk := Lib.hid (HLi.out k hkL hlt)
        have hfl : fs.length ≤ 1000000 := by have := HD.out.len; omega
        obtain ⟨SI, SF, B1, e1, e2, e3, e4⟩ := str_less es[k].key.2.2 fl
        obtain ⟨SI', ST, B2, g1, g2, g3, g4⟩ := str_less es[k].key.2.2 tl
        have hSS : SI' = SI := g1.trans e1.symm
        subst hSS
        have s1 := fun n => str_any ((HR.out _ (List.getElem_mem hlt)).1.new (HD.out.sat.chg.drewN n)) es[k].key.2.1
        have s2 := fun n => str_any (HF.out.new (HD.out.sat.chg.drewN n)) fc
        have s3 := fun n => str_any (HT.out.new (HD.out.sat.chg.drewN n)) tc
        simp only [← e1] at s1
        simp only [← e2] at s2
        simp only [← g2] at s3
        have HB1 : Hid (Op.bytesLess L[k].key fl = B1) := by unfold Hid; rw [HLk.out, e4]; rfl
        have HB2 : Hid (Op.bytesLess L[k].key tl = B2) := by unfold Hid; rw [HLk.out, g4]; rfl
        have HIn := Lib.hid (HZ.out L[k])
        clear hqq z0 z1 z2 z3 e1 e2 e4 g1 g2 g4
        cases B1 <;> cases B2
        all_goals first
          | (have HI : Hid (inR fl tl L[k] = true) := by unfold Hid; rw [HIn.out, HB1.out]; first | rfl | (rw [HB2.out]; rfl)
             have HN2 : Hid (rngL fl tl (L.take (k + 1)) = rngL fl tl (L.take k) ++ [es[k].ent]) := by unfold Hid; rw [HN.out, if_pos HI.out, HLk.out]
             go_wp2_with fail
             go_quiet (fail)
             go_wp2_with (at_builtin; refine wpList_appS rfl (.tmp 40) (.tmp 45) 22 rfl 34 i0 _ 4 64 Try.underlying22 Hi0.out Hz0.out Hz1.out Hz2.out rfl (by decide) (.slice A2 fs.length c2) fs.length (fs.flatMap enV) rfl w _ (by exact (HD.out.sat.drewN _).alloc' _) (some ⟨wr.heap.size, 0, none⟩) 1 1 (enV es[k]) rfl (lit_rdv _ _ _) rfl (by have := ent_ones [es[k]]; simpa using this) (by unfold maxLen; omega) (by omega) ?_; intro A3 c3 w7 hs7; have HS7 := Lib.hid hs7; clear hs7)
             go_roundw
             · exact ⟨k + 1, fs ++ [es[k]], A3, c3, by omega, by push_cast; rfl, by rw [snoc_len], by rw [HN2.out, List.map_append, HD.out.eq]; rfl, fun x hx => (List.mem_append.1 hx).elim (HD.out.mem x) (fun hx => by simp at hx; subst hx; exact List.getElem_mem _), by have := HD.out.len; rw [snoc_len]; omega, by rw [snoc_len, ents_app]; simpa using HS7.out⟩
             · simp [intOf]; omega)
          | (have HI : Hid (inR fl tl L[k] = false) := by unfold Hid; rw [HIn.out, HB1.out]; first | rfl | (rw [HB2.out]; rfl)
             have HN2 : Hid (rngL fl tl (L.take (k + 1)) = rngL fl tl (L.take k)) := by unfold Hid; rw [HN.out, HI.out]; rfl
             go_wp2_with fail
             go_quiet (fail)
             go_wp2_with fail
             go_roundw
             · exact ⟨k + 1, fs, A2, c2, by omega, by push_cast; rfl, rfl, by rw [HN2.out]; exact HD.out.eq, HD.out.mem, by have := HD.out.len; omega, HD.out.sat.drewN _⟩
             · simp [intOf]; omega)
      · have HN2 : Hid (rngL fl tl (L.take k) = rngL fl tl L) := by unfold Hid; rw [List.take_of_length_le (by rw [HLl.out]; omega)]
        go_wp2_with fail
        go_ret
        rw [← HN2.out]
        exact HD.out.done HR.out
/-- The first one of this key up to this number. -/
def mtB (key : List UInt8) (seq : Int) (x : Ent) : Bool := decide (x.key = key) && decide (x.seq ≤ seq)
theorem mtB_iff {key : List UInt8} {seq : Int} {x : Ent} : mtB key seq x = true ↔ mtE key seq x := by unfold mtB mtE; simp
def findE (key : List UInt8) (seq : Int) (L : List Ent) : Option Ent := L.find? (mtB key seq)
theorem get_find {key : List UInt8} {seq : Int} {L : List Ent} (hs : L.Pairwise LTE) : getL key seq L = findE key seq L := by
  unfold findE
  cases hf : L.find? (mtB key seq) with
  | none =>
    rcases bst_end key seq L with ⟨h1, _⟩ | ⟨h, h1, _⟩
    · exact h1
    · exfalso
      obtain ⟨s, e1, e2⟩ := pl_at (key := key) (seq := seq) h
      have hk : L[plN key seq L].key = key := by
        unfold getL at h1
        rw [e1] at h1
        by_cases q : L[plN key seq L].key = key
        · exact q
        · simp only [if_neg q] at h1; cases h1
      have := List.find?_eq_none.1 hf _ (List.getElem_mem h)
      exact this (mtB_iff.2 (not_mt e2 hk))
  | some x =>
    obtain ⟨hx, i, hi, hxi, hlow⟩ := List.find?_eq_some_iff_getElem.1 hf
    subst hxi
    obtain ⟨h1, h2, h3, h4⟩ := get_pl hs hi (mtB_iff.1 hx)
    rcases Nat.eq_or_lt_of_le h1 with q | q
    · rw [h3]
      congr 1
      congr
    · exfalso
      have hlo := hlow _ q
      obtain ⟨s, e1, e2⟩ := pl_at (key := key) (seq := seq) h2
      have hk : L[plN key seq L].key = key := by
        unfold getL at h3
        rw [e1] at h3
        by_cases q : L[plN key seq L].key = key
        · exact q
        · simp only [if_neg q] at h3; cases h3
      rw [mtB_iff.2 (not_mt e2 hk)] at hlo
      simp at hlo
theorem find_next {key : List UInt8} {seq : Int} {L : List Ent} {k : Nat} (h : k < L.length) (hlow : ∀ i (hi : i < L.length), i < k → mtB key seq L[i] = false) (hm : mtB key seq L[k] = true) : findE key seq L = some L[k] := by
  unfold findE
  exact List.find?_eq_some_iff_getElem.2 ⟨hm, k, h, rfl, fun j hj => by rw [hlow j (by omega) hj]; rfl⟩
theorem rfind_none {key : List UInt8} {seq : Int} {L : List Ent} (hlow : ∀ i (hi : i < L.length), mtB key seq L[i] = false) : findE key seq L = none := by
  unfold findE
  exact List.find?_eq_none.2 fun x hx => by
    obtain ⟨i, hi, rfl⟩ := List.mem_iff_getElem.1 hx
    rw [hlow i hi]; simp
set_option maxHeartbeats 4000000 in
theorem rget_any (A : Option Addr) (c : Nat) (es : List En) (K : Slc) (seq : Int) (w : World) (h : RdV w A (es.flatMap enV)) (hr : EnsR w es) (hk : Rd w K.1 K.2.2) (hc : es.length ≤ c) (hm : c ≤ maxLen) :
    Calls Try.prog 42 #[.slice A es.length c, .slice K.1 K.2.2.length K.2.1, .int .i64 seq] w fun x w' => (∃ g : En, x = .returned (.tuple #[.agg #[.slice g.key.1 g.key.2.2.length g.key.2.1, .slice g.value.1 g.value.2.2.length g.value.2.1, .int .i64 g.seq, .bool g.dead], .bool (findE K.2.2 seq (es.map En.ent)).isSome]) ∧ g.ent = (findE K.2.2 seq (es.map En.ent)).getD noE ∧ EnR w' g ∧ (g ∈ es ∨ g = ⟨(none, 0, []), (none, 0, []), 0, false⟩)) ∧ Chg No w w' := by
  obtain ⟨kp, kc, kl⟩ := K
  have HL := Lib.hid h
  have HR := Lib.hid hr
  have HK : Hid (Rd w kp kl) := hk
  unfold maxLen at hm
  obtain ⟨L, hL⟩ : ∃ L, L = es.map En.ent := ⟨_, rfl⟩
  have hLl : L.length = es.length := by rw [hL]; simp
  have HLl := Lib.hid hLl
  have HLi : Hid (∀ i (h : i < L.length) (h' : i < es.length), L[i] = es[i].ent) := by intro i h h'; subst hL; simp
  rw [← hL]
  have hs1 := (Sat.start w).allocAt (b := w.heap.size) 34 #[.slice none 0 0, .slice none 0 0, .int .i64 0, .bool false] rfl
  clear h hr hk hL hLl
  show Calls _ _ #[_, .slice kp kl.length kc, _] w (fun x w' => (∃ g : En, x = .returned (.tuple #[.agg #[.slice g.key.1 g.key.2.2.length g.key.2.1, .slice g.value.1 g.value.2.2.length g.value.2.1, .int .i64 g.seq, .bool g.dead], .bool (findE kl seq L).isSome]) ∧ g.ent = (findE kl seq L).getD noE ∧ EnR w' g ∧ (g ∈ es ∨ g = ⟨(none, 0, []), (none, 0, []), 0, false⟩)) ∧ Chg No w w')
  go_enter Try.func42, Try.ntmps42
  go_wp2_with fail
  revert hs1
  generalize w.alloc _ = W
  generalize w.heap.size = O
  intro hs1
  have HS1 := Lib.hid hs1
  clear hs1
  go_loopw [8] (fun i wr => ∃ k : Nat, k ≤ es.length ∧ i = .int .i64 k ∧ Hid ((∀ i (hi : i < L.length), i < k → mtB kl seq L[i] = false) ∧ Sat w (Pt O 34 #[.slice none 0 0, .slice none 0 0, .int .i64 0, .bool false] * Emp) wr)) (fun i _ => es.length - (intOf i).toNat)
  case atStart => exact ⟨0, by omega, rfl, fun i hi h => by omega, HS1.out⟩
  case round =>
    obtain ⟨k, hk, rfl, HD⟩ := hrel
    by_cases hlt : k < es.length
    · obtain ⟨lb, lo, hA, hqq⟩ := ents_at HL.out (by omega)
      obtain ⟨z0, z1, z2, z3⟩ := hqq k hlt
      have a0 := HD.out.2.chg.cell z0 id; have a1 := HD.out.2.chg.cell z1 id; have a2 := HD.out.2.chg.cell z2 id; have a3 := HD.out.2.chg.cell z3 id
      subst hA
      unfold slv' at a0 a1
      have hkL : k < L.length := by rw [HLl.out]; exact hlt
      have HLk := Lib.hid (HLi.out k hkL hlt)
      obtain ⟨SI, SK, B, e1, e2, e3, e4⟩ := str_two es[k].key.2.2 kl
      have s1 := fun n => str_any ((HR.out _ (List.getElem_mem hlt)).1.new (HD.out.2.chg.drewN n)) es[k].key.2.1
      have s2 := fun n => str_any (HK.out.new (HD.out.2.chg.drewN n)) kc
      simp only [← e1] at s1
      simp only [← e2] at s2
      have HB : Hid (mtB kl seq L[k] = (B && decide (es[k].seq ≤ seq))) := by unfold Hid mtB; rw [HLk.out, e4]; rfl
      have q0 := HD.out.2.cell 0; have q1 := HD.out.2.cell 1; have q2 := HD.out.2.cell 2; have q3 := HD.out.2.cell 3
      have f0 := HD.out.2.frozen 0; have f1 := HD.out.2.frozen 1; have f2 := HD.out.2.frozen 2; have f3 := HD.out.2.frozen 3
      clear hqq z0 z1 z2 z3 e1 e2 e4
      have next : mtB kl seq L[k] = false → ∀ i (hi : i < L.length), i < k + 1 → mtB kl seq L[i] = false := fun hf i hi h => if q : i = k then by subst q; exact hf else HD.out.1 i hi (by omega)
      have HNext := Lib.hid next
      clear next
      by_cases hseq : es[k].seq ≤ seq
      · have hd : decide (es[k].seq ≤ seq) = true := by simpa using hseq
        cases B with
        | true =>
          have HI : Hid (findE kl seq L = some L[k]) := find_next hkL HD.out.1 (by rw [HB.out, hd]; rfl)
          have h9 := (((HD.out.2.set 0 (.slice es[k].key.1 es[k].key.2.2.length es[k].key.2.1)).set 1 (.slice es[k].value.1 es[k].value.2.2.length es[k].value.2.1)).set 2 (.int .i64 es[k].seq)).set 3 (.bool es[k].dead)
          have HS9 : Hid (∀ n, Sat w _ _) := fun n : Nat => (((((HD.out.2.drewN n).set 0 (.slice es[k].key.1 es[k].key.2.2.length es[k].key.2.1)).set 1 (.slice es[k].value.1 es[k].value.2.2.length es[k].value.2.1)).set 2 (.int .i64 es[k].seq)).set 3 (.bool es[k].dead))
          clear h9
          go_wp2_with fail
          go_quiet (fail)
          go_wp2_with fail
          have h9 := HS9.out nq
          revert h9
          generalize World.setCell _ _ _ = w4
          intro h9
          refine bodyPost_ret (results_cell_tmp (p := 6) (q := 7) (by kernel_rfl) _ _ O 34 _ (0, 0) _ _ rfl rfl h9.at Try.underlying34 rfl (by kernel_rfl)) rfl ?_
          rw [HI.out]
          exact ⟨⟨es[k], rfl, HLk.out.symm, (HR.out _ (List.getElem_mem hlt)).new h9.chg, .inl (List.getElem_mem hlt)⟩, h9.chg⟩
        | false =>
          have HI : Hid (mtB kl seq L[k] = false) := by unfold Hid; rw [HB.out]; rfl
          go_wp2_with fail
          go_quiet (fail)
          go_wp2_with fail
          go_roundw
          · exact ⟨k + 1, by omega, by push_cast; rfl, HNext.out HI.out, HD.out.2.drewN _⟩
          · simp [intOf]; omega
      · have hd : decide (es[k].seq ≤ seq) = false := by simpa using hseq
        have HI : Hid (mtB kl seq L[k] = false) := by unfold Hid; rw [HB.out, hd]; simp
        have hsq3 : seq < es[k].seq := by omega
        cases B
        all_goals
          go_wp2_with fail
          go_quiet (fail)
          go_wp2_with fail
          go_roundw
          · exact ⟨k + 1, by omega, by push_cast; rfl, HNext.out HI.out, HD.out.2.drewN _⟩
          · simp [intOf]; omega
    · have HI : Hid (findE kl seq L = none) := rfind_none fun i hi => HD.out.1 i hi (by rw [HLl.out] at hi; omega)
      have q0 := HD.out.2.cell 0; have q1 := HD.out.2.cell 1; have q2 := HD.out.2.cell 2; have q3 := HD.out.2.cell 3
      have f0 := HD.out.2.frozen 0; have f1 := HD.out.2.frozen 1; have f2 := HD.out.2.frozen 2; have f3 := HD.out.2.frozen 3
      have h9 := (((HD.out.2.set 0 (.slice none 0 0)).set 1 (.slice none 0 0)).set 2 (.int .i64 0)).set 3 (.bool false)
      have HS9 := Lib.hid h9
      clear h9
      go_wp2_with fail
      have h9 := HS9.out
      revert h9
      generalize World.setCell _ _ _ = w4
      intro h9
      refine bodyPost_ret (results_cell_tmp (p := 6) (q := 7) (by kernel_rfl) _ _ O 34 _ (0, 0) _ _ rfl rfl h9.at Try.underlying34 rfl (by kernel_rfl)) rfl ?_
      rw [HI.out]
      exact ⟨⟨⟨(none, 0, []), (none, 0, []), 0, false⟩, rfl, rfl, ⟨Rd.nil _ _, Rd.nil _ _⟩, .inr rfl⟩, h9.chg⟩
end Go.Proofs.Ytaoenbjfkahdjaa
namespace Go.Proofs.Ytaoenbjfkahdjaa
open Go.RowKit
set_option linter.unusedVariables false
set_option maxRecDepth 100000

theorem filter_take {p : Ent → Bool} : ∀ {L : List Ent}, L.Pairwise (fun x y => p y = true → p x = true) → L.filter p = L.takeWhile p
  | [], _ => rfl
  | x :: L, h => by
    rw [List.pairwise_cons] at h
    rw [List.filter_cons, List.takeWhile_cons]
    by_cases hp : p x = true
    · rw [if_pos hp, if_pos hp, filter_take h.2]
    · rw [if_neg hp, if_neg hp]
      exact List.filter_eq_nil_iff.2 fun y hy hpy => hp (h.1 y hy hpy)
theorem dw_sub (f : Ent → Bool) (L : List Ent) : (L.dropWhile f).Sublist L := (List.dropWhile_suffix f).sublist
/-- What Range tells of a row in order. -/
def rngT (fl tl : List UInt8) (L : List Ent) : List Ent := (L.drop (atN (fromE fl) L)).takeWhile (inB tl)
theorem drop_at (e : Ent) (L : List Ent) : L.drop (atN e L) = L.dropWhile (fun x => lessE x e) := by
  unfold atN
  conv => lhs; rw [split_at (fun x => lessE x e) L]
  rw [List.takeWhile_append_dropWhile]
  have := List.drop_left (l₁ := L.takeWhile fun x => lessE x e) (l₂ := L.dropWhile fun x => lessE x e)
  rw [List.takeWhile_append_dropWhile] at this
  exact this
theorem rngT_eq {L : List Ent} (hs : L.Pairwise LTE) (hseq : ∀ x ∈ L, x.seq ≤ topSeq) (fl tl : List UInt8) : rngT fl tl L = rngL fl tl L := by
  unfold rngT
  rw [drop_at]
  have hkey : ∀ x y : Ent, LTE x y → Lib.compareBytes y.key tl < 0 → Lib.compareBytes x.key tl < 0 := by
    intro x y h k
    rw [lte_iff] at h
    rcases h with h | ⟨h, _⟩
    · exact cb_trans h k
    · rw [h]; exact k
  have e0 := split_at (fun x => lessE x (fromE fl)) L
  have hA : ∀ x ∈ L.takeWhile (fun x => lessE x (fromE fl)), inR fl tl x = false := by
    intro x hx
    have h1 : LTE x (fromE fl) := tw_mem (f := fun x => lessE x (fromE fl)) hx
    have hx2 : x ∈ L := (List.takeWhile_sublist _).subset hx
    rw [lte_iff] at h1
    rcases h1 with h1 | ⟨_, h1⟩
    · unfold inR
      have h1 : Lib.compareBytes x.key fl < 0 := h1
      rw [cb_less, decide_eq_true h1]
      rfl
    · exfalso
      have h1 : topSeq < x.seq := h1
      have := hseq x hx2
      omega
  have hB : ∀ x ∈ L.dropWhile (fun x => lessE x (fromE fl)), Op.bytesLess x.key fl = false := by
    intro x hx
    have hs2 := hs.sublist (dw_sub (fun x => lessE x (fromE fl)) L)
    cases hd : L.dropWhile (fun x => lessE x (fromE fl)) with
    | nil => rw [hd] at hx; simp at hx
    | cons y s =>
      have h3 := List.head?_dropWhile_not (fun x => lessE x (fromE fl)) L
      rw [hd] at h3 hx hs2
      simp at h3
      have hy : ¬ Lib.compareBytes y.key fl < 0 := fun q => by
        have : LTE y (fromE fl) := lte_iff.2 (.inl q)
        unfold LTE at this
        rw [h3] at this
        cases this
      have hxx : ¬ Lib.compareBytes x.key fl < 0 := by
        rcases List.mem_cons.1 hx with rfl | hx
        · exact hy
        · intro q
          have h4 := (List.pairwise_cons.1 hs2).1 x hx
          rw [lte_iff] at h4
          rcases h4 with h4 | ⟨h4, _⟩
          · exact hy (cb_trans h4 q)
          · rw [h4] at hy; exact hy q
      rw [cb_less, decide_eq_false hxx]
  unfold rngL
  conv => rhs; rw [e0]
  rw [List.filter_append, List.filter_eq_nil_iff.2 (fun x hx => by rw [hA x hx]; simp), List.nil_append]
  have hc : (L.dropWhile (fun x => lessE x (fromE fl))).filter (inR fl tl) = (L.dropWhile (fun x => lessE x (fromE fl))).filter (inB tl) := by
    apply List.filter_congr
    intro x hx
    unfold inR inB
    rw [hB x hx, cb_less]
    rfl
  rw [hc, filter_take]
  have hs2 := hs.sublist (dw_sub (fun x => lessE x (fromE fl)) L)
  refine hs2.imp fun {x y} hxy hy => ?_
  unfold inB at hy ⊢
  simp only [Bool.or_eq_true, decide_eq_true_eq] at hy ⊢
  rcases hy with hy | hy
  · exact .inl hy
  · exact .inr (hkey x y hxy hy)
theorem sorted_pw : ∀ {L : List Ent}, sortedB L = true → L.Pairwise LTE
  | [], _ => List.Pairwise.nil
  | [x], _ => List.pairwise_singleton _ _
  | x :: y :: L, h => by
    have h2 := (sortedB_iff (x :: y :: L)).1 h
    have hl : sortedB (y :: L) = true := (sortedB_iff (y :: L)).2 fun i hi => by
      have := h2 (i + 1) (by simpa using hi)
      simpa using this
    have ih := sorted_pw hl
    refine List.pairwise_cons.2 ⟨fun z hz => ?_, ih⟩
    have h0 : LTE x y := by have := h2 0 (by simp); simpa using this
    rcases List.mem_cons.1 hz with rfl | hz
    · exact h0
    · exact lte_trans h0 ((List.pairwise_cons.1 ih).1 z hz)
end Go.Proofs.Ytaoenbjfkahdjaa
namespace Go.Proofs.Ytaoenbjfkahdjaa
open Go.ChangeShapes Go.WideShapes Go.ChangeAt Go.RowKit Go.Deep
set_option linter.unusedVariables false
set_option maxRecDepth 100000

/-- No string, slice or map of what d holds is larger than the form's reach. -/
def Sized {H : Type} (P : Program) (t : TypeId) (d : DataW H) : Prop := ∀ n ∈ d.weights P t, n ≤ reachBytes
theorem reach_val : reachBytes = 140737488351232 := by decide
section
variable {H : Type} {P : Program}
theorem sized_of {ts : List TypeId} {ds : List (DataW H)} (h : (DataW.weightsEach P ts ds).all (· ≤ reachBytes) = true) {j : Nat} {t : TypeId} {d : DataW H} (ht : ts[j]? = some t) (hd : ds[j]? = some d) : Sized P t d := fun n hn => by
  simpa using List.all_eq_true.1 h n (DataW.weights_mem_each ht hd n hn)
theorem weightsAll_mem {e : TypeId} {d : DataW H} {n : Nat} (hn : n ∈ d.weights P e) : ∀ {l : List (DataW H)}, d ∈ l → n ∈ DataW.weightsAll P e l
  | [], h => by cases h
  | x :: l, h => by
    simp only [DataW.weightsAll, List.mem_append]
    rcases List.mem_cons.1 h with rfl | h
    · exact .inl hn
    · exact .inr (weightsAll_mem hn h)
theorem Sized.len {t e : TypeId} {elems spare : List (DataW H)} (h : Sized P t (.slice elems spare)) (hu : P.underlying t = some (.slice e)) : (elems.length + spare.length) * P.bytesOf e ≤ reachBytes :=
  h _ (by simp [DataW.weights, hu])
theorem Sized.elem {t e : TypeId} {elems spare : List (DataW H)} (h : Sized P t (.slice elems spare)) (hu : P.underlying t = some (.slice e)) {d : DataW H} (hd : d ∈ elems) : Sized P e d := fun n hn =>
  h n (by simp only [DataW.weights, hu]; exact List.mem_cons_of_mem _ (List.mem_append_left _ (weightsAll_mem hn hd)))

variable {enc : TypeId × Value → H} {w : World} {base : Nat} {spare : Nat → Bool} {held : Bool}
theorem rdv_of_add {a : Addr} {xs : List Value} (h : ∀ j (hj : j < xs.length), w.cell? (a.add j) = some xs[j]) : RdV w (some a) xs := fun hx => by
  obtain ⟨b, o, s⟩ := a
  have h0 := h 0 (List.length_pos_iff.2 hx)
  rw [Addr.add_zero'] at h0
  have hs := World.cell?_spot h0
  simp at hs
  subst hs
  exact ⟨b, o, rfl, fun j hj => by rw [← h j hj, Addr.add_lit]⟩

/-- A row of bytes. -/
theorem open_bytes {t e : TypeId} {fuel : Nat} {cs : List Value} {x : DataW H × List MemPlace} (ht : P.underlying t = some (.slice e)) (he : P.underlying e = some (.int .u8)) (hc : P.cellsOf e = 1) (hb : P.bytesOf e = 1)
    (h : DataW.trod enc P w base spare held fuel t cs = some x) (hz : Sized P t x.1) :
    ∃ A c l, cs = [.slice A l.length c] ∧ l.length ≤ c ∧ c ≤ maxLen ∧ Rd w A l ∧ l.length ≤ 140737488351232 ∧ (A = none → c = 0) := by
  rcases open_ints ht he hc h with ⟨rfl, _⟩ | ⟨a, len, cap, zs, rfl, _, hl, hm, hzl, hx, hcell, hwf⟩
  · exact ⟨none, 0, [], rfl, Nat.le_refl _, Nat.zero_le _, Rd.nil _ _, by simp, fun _ => rfl⟩
  · have hlz : len ≤ zs.length := by rw [hzl]; split <;> omega
    subst hx
    have hsz := Sized.len hz ht
    simp only [lits, List.length_map, List.length_take, List.length_drop, hb, reach_val] at hsz
    refine ⟨some a, cap, (zs.take len).map fun n => UInt8.ofNat n.toNat, by simp [Nat.min_eq_left hlz], by simp; omega, hm, rdv_of_add fun j hj => ?_, by simp; omega, fun e => by cases e⟩
    simp at hj
    rw [hcell j (by omega)]
    have hb := bounds_u8 (hwf (zs.getD j 0) (by rw [List.getD_eq_getElem?_getD, List.getElem?_eq_getElem (by omega)]; exact List.getElem_mem _))
    simp only [List.getElem_map, List.getElem_take, bv]
    rw [List.getD_eq_getElem?_getD, List.getElem?_eq_getElem (by omega)] at hb ⊢
    simp only [Option.getD_some] at hb ⊢
    have : ((UInt8.ofNat zs[j].toNat).toNat : Int) = zs[j] := by
      rw [UInt8.toNat_ofNat', Nat.mod_eq_of_lt (by omega)]; omega
    rw [this]

/-- A row of integers. -/
theorem open_words {t e : TypeId} {fuel : Nat} {cs : List Value} {x : DataW H × List MemPlace} (ht : P.underlying t = some (.slice e)) (he : P.underlying e = some (.int .i64)) (hc : P.cellsOf e = 1) (hb : P.bytesOf e = 8)
    (h : DataW.trod enc P w base spare held fuel t cs = some x) (hz : Sized P t x.1) :
    ∃ (A : Option Addr) (c : Nat) (l : List Int), cs = [.slice A l.length c] ∧ l.length ≤ c ∧ c ≤ maxLen ∧ RdV w A (l.map fun n => .int .i64 n) ∧ l.length ≤ 17592186043904 ∧ ∀ n ∈ l, -9223372036854775808 ≤ n ∧ n ≤ 9223372036854775807 := by
  rcases open_ints ht he hc h with ⟨rfl, _⟩ | ⟨a, len, cap, zs, rfl, _, hl, hm, hzl, hx, hcell, hwf⟩
  · exact ⟨none, 0, [], rfl, Nat.le_refl _, Nat.zero_le _, RdV.nil _ _, by simp, by simp⟩
  · have hlz : len ≤ zs.length := by rw [hzl]; split <;> omega
    subst hx
    have hsz := Sized.len hz ht
    simp only [lits, List.length_map, List.length_take, List.length_drop, hb, reach_val] at hsz
    refine ⟨some a, cap, zs.take len, by simp [Nat.min_eq_left hlz], by simp; omega, hm, rdv_of_add fun j hj => ?_, by simp; omega, fun n hn => bounds_i64 (hwf n (List.mem_of_mem_take hn))⟩
    simp at hj
    rw [hcell j (by omega)]
    simp only [List.getElem_map, List.getElem_take]
    rw [List.getD_eq_getElem?_getD, List.getElem?_eq_getElem (by omega)]
    rfl

/-- A list of rows of bytes. -/
theorem open_rows {t e q : TypeId} {fuel : Nat} {cs : List Value} {x : DataW H × List MemPlace} (ht : P.underlying t = some (.slice e)) (he : P.underlying e = some (.slice q)) (hq : P.underlying q = some (.int .u8))
    (ce : P.cellsOf e = 1) (cq : P.cellsOf q = 1) (hb : P.bytesOf q = 1) (hbe : P.bytesOf e = 24) (h : DataW.trod enc P w base spare held fuel t cs = some x) (hz : Sized P t x.1) :
    ∃ A c ks, cs = [.slice A ks.length c] ∧ ks.length ≤ c ∧ c ≤ maxLen ∧ RdL w A ks ∧ ks.length ≤ 5864062014634 ∧ (∀ k ∈ ks, k.2.2.length ≤ 140737488351232 ∧ k.2.2.length ≤ k.2.1 ∧ k.2.1 ≤ maxLen) := by
  rcases open_slice1 ht ce h with ⟨rfl, _⟩ | ⟨a, len, cap, m, n, V, D, Pl, rfl, _, hl, hm, hmm, hx, hi⟩
  · exact ⟨none, 0, [], rfl, Nat.le_refl _, Nat.zero_le _, RdL.nil _ _, by simp, by simp⟩
  · have hlm : len ≤ m := by rw [hmm]; split <;> omega
    subst hx
    have hsz := Sized.len hz ht
    simp only [List.length_map, List.length_range, hbe, reach_val] at hsz
    have each : ∀ i, i < len → ∃ k : Option Addr × Nat × List UInt8, V i = slOf k ∧ Rd w k.1 k.2.2 ∧ k.2.2.length ≤ 140737488351232 ∧ k.2.2.length ≤ k.2.1 ∧ k.2.1 ≤ maxLen := fun i hil => by
      have hD : Sized P e (D i) := Sized.elem hz ht (List.mem_map.2 ⟨i, List.mem_range.2 hil, rfl⟩)
      obtain ⟨A, c, l, h1, h2, h3, h4, h5, _⟩ := open_bytes he hq cq hb (hi i (by omega)).2 hD
      exact ⟨(A, c, l), by simpa [slOf] using h1, h4, h5, h2, h3⟩
    obtain ⟨f, hf⟩ := choose_lt each
    refine ⟨some a, cap, (List.range len).map f, by simp, by simpa using hl, hm, ⟨rdv_of_add fun j hj => ?_, fun k hk => ?_⟩, by simp; omega, fun k hk => ?_⟩
    · simp at hj
      rw [(hi j (by omega)).1, (hf j hj).1]
      simp
    · obtain ⟨j, hj, rfl⟩ := List.mem_map.1 hk
      exact (hf j (List.mem_range.1 hj)).2.1
    · obtain ⟨j, hj, rfl⟩ := List.mem_map.1 hk
      exact (hf j (List.mem_range.1 hj)).2.2
end
end Go.Proofs.Ytaoenbjfkahdjaa
namespace Go.Proofs.Ytaoenbjfkahdjaa
open Go.RowKit Go.ChangeShapes Go.WideShapes Go.Deep
set_option linter.unusedVariables false
set_option maxRecDepth 100000

theorem flatk {α : Type} {k : Nat} {f : α → List Value} (hf : ∀ x, (f x).length = k) : ∀ (l : List α) (i j : Nat) (hi : i < l.length) (hj : j < k), (l.flatMap f)[i * k + j]? = (f l[i])[j]?
  | [], i, j, hi, hj => by simp at hi
  | x :: l, 0, j, hi, hj => by
    rw [List.flatMap_cons, Nat.zero_mul, Nat.zero_add, List.getElem?_append_left (by rw [hf]; exact hj)]; rfl
  | x :: l, i + 1, j, hi, hj => by
    have e : (i + 1) * k + j - k = i * k + j := by rw [Nat.add_mul]; omega
    rw [List.flatMap_cons, List.getElem?_append_right (by rw [hf, Nat.add_mul]; omega), hf, e]
    have := flatk hf l i j (by simpa using hi) hj
    rw [this]
    rfl
theorem flatk_len {α : Type} {k : Nat} {f : α → List Value} (hf : ∀ x, (f x).length = k) : ∀ (l : List α), (l.flatMap f).length = l.length * k
  | [] => by simp
  | x :: l => by rw [List.flatMap_cons, List.length_append, hf, flatk_len hf l, List.length_cons, Nat.add_mul]; omega
/-- The cells of one element. -/
theorem RdV.elem {α : Type} {k : Nat} {f : α → List Value} (hf : ∀ x, (f x).length = k) (hk : 0 < k) {w : World} {A : Option Addr} {l : List α} (h : RdV w A (l.flatMap f)) {i : Nat} (hi : i < l.length) :
    ∃ b o, A = some ⟨b, o, none⟩ ∧ ∀ r, r < k → w.cell? ⟨b, o + (i * k + r), none⟩ = (f l[i])[r]? := by
  have hl := flatk_len hf l
  have hlt : ∀ r, r < k → i * k + r < (l.flatMap f).length := fun r hr => by
    rw [hl]
    have := Nat.mul_le_mul_right k (show i + 1 ≤ l.length from hi)
    rw [Nat.add_mul] at this
    omega
  obtain ⟨b, o, e, hc⟩ := h (by intro e; have := hlt 0 hk; rw [e] at this; simp at this)
  refine ⟨b, o, e, fun r hr => ?_⟩
  rw [hc _ (hlt r hr), ← flatk hf l i r hi hr, List.getElem?_eq_getElem]
section
variable {H : Type} {enc : TypeId × Value → H} {P : Program} {w : World} {base : Nat} {spare : Nat → Bool} {held : Bool}
theorem open_elems {α : Type} [Inhabited α] (f : α → List Value) (good : α → Prop) (k bt : Nat) {t e : TypeId} {fuel : Nat} {cs : List Value} {x : DataW H × List MemPlace} (ht : P.underlying t = some (.slice e)) (hk : P.cellsOf e = k) (hb : P.bytesOf e = bt)
    (hf : ∀ x, (f x).length = k) (hpos : 0 < k) (each : ∀ n cs x, DataW.trod enc P w base spare held n e cs = some x → Sized P e x.1 → ∃ y, cs = f y ∧ good y)
    (h : DataW.trod enc P w base spare held fuel t cs = some x) (hz : Sized P t x.1) :
    ∃ (A : Option Addr) (c : Nat) (l : List α), cs = [.slice A l.length c] ∧ l.length ≤ c ∧ c ≤ maxLen ∧ RdV w A (l.flatMap f) ∧ l.length * bt ≤ 140737488351232 ∧ ∀ y ∈ l, good y := by
  rcases open_slice ht h with ⟨rfl, _⟩ | ⟨a, len, cap, m, n, D, Pl, rfl, hba, hl, hm, hmm, hx, hi⟩
  · exact ⟨none, 0, [], rfl, Nat.le_refl _, Nat.zero_le _, RdV.nil _ _, by simp, by simp⟩
  · have hlm : len ≤ m := by rw [hmm]; split <;> omega
    subst hx
    have hsz := Sized.len hz ht
    simp only [List.length_map, List.length_range, hb, reach_val] at hsz
    have each' : ∀ i, i < len → ∃ y : α, good y ∧ ∀ j, j < k → w.cell? (a.add (i * k + j)) = (f y)[j]? := fun i hil => by
      have hD : Sized P e (D i) := Sized.elem hz ht (List.mem_map.2 ⟨i, List.mem_range.2 hil, rfl⟩)
      obtain ⟨cs', hc, htr⟩ := hi i (by omega)
      obtain ⟨y, hy, hg⟩ := each _ _ _ htr hD
      refine ⟨y, hg, fun j hj => ?_⟩
      obtain ⟨_, _, h3⟩ := World.cells?_some hc
      rw [hk] at h3
      have := h3 j hj
      rw [hy, add_add] at this
      exact this
    obtain ⟨g, hg⟩ := choose_lt each'
    refine ⟨some a, cap, (List.range len).map g, by simp, by simpa using hl, hm, rdv_of_add fun j hj => ?_, ?_, fun y hy => ?_⟩
    · have hlen := flatk_len hf ((List.range len).map g)
      simp only [List.length_map, List.length_range] at hlen
      rw [hlen] at hj
      have hq : j / k < len := Nat.div_lt_of_lt_mul (by rw [Nat.mul_comm]; exact hj)
      have hr : j % k < k := Nat.mod_lt _ hpos
      have h1 := (hg (j / k) hq).2 (j % k) hr
      have h2 := flatk hf ((List.range len).map g) (j / k) (j % k) (by simpa using hq) hr
      have hjk : j / k * k + j % k = j := Nat.div_add_mod' j k
      rw [hjk] at h1 h2
      rw [h1]
      simp only [List.getElem_map, List.getElem_range] at h2
      rw [← h2, List.getElem?_eq_getElem (by rw [hlen]; exact hj)]
    · simp only [List.length_map, List.length_range]
      have := Nat.mul_le_mul_right bt (show len ≤ len + (m - len) by omega)
      omega
    · obtain ⟨j, hj, rfl⟩ := List.mem_map.1 hy
      exact (hg j (List.mem_range.1 hj)).1
def isI64 (n : Int) : Prop := -9223372036854775808 ≤ n ∧ n ≤ 9223372036854775807
theorem arr_at {t q : TypeId} {n fuel : Nat} {cs : List Value} {x : DataW H × List MemPlace} (ht : P.underlying t = some (.array n q)) (hq : P.underlying q = some (.int .i64)) (cq : P.cellsOf q = 1) (ct : P.cellsOf t = n)
    (h : DataW.trod enc P w base spare held fuel t cs = some x) : cs.length = n ∧ ∀ i, i < n → ∃ a : Int, cs[i]? = some (.int .i64 a) ∧ isI64 a := by
  obtain ⟨xs, m, _, _, hl, hxl, hi⟩ := DataW.trod_array ht h
  rw [ct] at hl
  refine ⟨hl, fun i hin => ?_⟩
  have h1 := hi i hin
  rw [cq, Nat.mul_one, List.getElem?_eq_getElem (by omega)] at h1
  obtain ⟨a, e1, _, hw⟩ := DataW.trod_int hq h1
  refine ⟨a, ?_, bounds_i64 hw⟩
  have h2 := congrArg (fun l => l[0]?) e1
  simpa [List.getElem?_take, List.getElem?_drop] using h2
def v2 (x : Int × Int) : List Value := [.int .i64 x.1, .int .i64 x.2]
def v3 (x : Int × Int × Int) : List Value := [.int .i64 x.1, .int .i64 x.2.1, .int .i64 x.2.2]
def v4 (x : Int × Int × Int × Int) : List Value := [.int .i64 x.1, .int .i64 x.2.1, .int .i64 x.2.2.1, .int .i64 x.2.2.2]
theorem open_two {t e q : TypeId} {fuel : Nat} {cs : List Value} {x : DataW H × List MemPlace} (ht : P.underlying t = some (.slice e)) (he : P.underlying e = some (.array 2 q)) (hq : P.underlying q = some (.int .i64)) (cq : P.cellsOf q = 1) (ce : P.cellsOf e = 2) (be : P.bytesOf e = 16)
    (h : DataW.trod enc P w base spare held fuel t cs = some x) (hz : Sized P t x.1) :
    ∃ (A : Option Addr) (c : Nat) (l : List (Int × Int)), cs = [.slice A l.length c] ∧ l.length ≤ c ∧ c ≤ maxLen ∧ RdV w A (l.flatMap v2) ∧ l.length * 16 ≤ 140737488351232 ∧ ∀ y ∈ l, isI64 y.1 ∧ isI64 y.2 := by
  refine open_elems v2 (fun y => isI64 y.1 ∧ isI64 y.2) 2 16 ht ce be (fun _ => rfl) (by decide) (fun n cs x hx _ => ?_) h hz
  obtain ⟨hl, hi⟩ := arr_at he hq cq ce hx
  obtain ⟨a, ha, wa⟩ := hi 0 (by decide)
  obtain ⟨b, hb, wb⟩ := hi 1 (by decide)
  refine ⟨(a, b), ?_, wa, wb⟩
  match cs, hl with
  | [u, v], _ => simp at ha hb; rw [ha, hb]; rfl
theorem open_three {t e q : TypeId} {fuel : Nat} {cs : List Value} {x : DataW H × List MemPlace} (ht : P.underlying t = some (.slice e)) (he : P.underlying e = some (.array 3 q)) (hq : P.underlying q = some (.int .i64)) (cq : P.cellsOf q = 1) (ce : P.cellsOf e = 3) (be : P.bytesOf e = 24)
    (h : DataW.trod enc P w base spare held fuel t cs = some x) (hz : Sized P t x.1) :
    ∃ (A : Option Addr) (c : Nat) (l : List (Int × Int × Int)), cs = [.slice A l.length c] ∧ l.length ≤ c ∧ c ≤ maxLen ∧ RdV w A (l.flatMap v3) ∧ l.length * 24 ≤ 140737488351232 ∧ ∀ y ∈ l, isI64 y.1 ∧ isI64 y.2.1 ∧ isI64 y.2.2 := by
  refine open_elems v3 (fun y => isI64 y.1 ∧ isI64 y.2.1 ∧ isI64 y.2.2) 3 24 ht ce be (fun _ => rfl) (by decide) (fun n cs x hx _ => ?_) h hz
  obtain ⟨hl, hi⟩ := arr_at he hq cq ce hx
  obtain ⟨a, ha, wa⟩ := hi 0 (by decide)
  obtain ⟨b, hb, wb⟩ := hi 1 (by decide)
  obtain ⟨c, hc, wc⟩ := hi 2 (by decide)
  refine ⟨(a, b, c), ?_, wa, wb, wc⟩
  match cs, hl with
  | [u, v, z], _ => simp at ha hb hc; rw [ha, hb, hc]; rfl
theorem open_four {t e q : TypeId} {fuel : Nat} {cs : List Value} {x : DataW H × List MemPlace} (ht : P.underlying t = some (.slice e)) (he : P.underlying e = some (.array 4 q)) (hq : P.underlying q = some (.int .i64)) (cq : P.cellsOf q = 1) (ce : P.cellsOf e = 4) (be : P.bytesOf e = 32)
    (h : DataW.trod enc P w base spare held fuel t cs = some x) (hz : Sized P t x.1) :
    ∃ (A : Option Addr) (c : Nat) (l : List (Int × Int × Int × Int)), cs = [.slice A l.length c] ∧ l.length ≤ c ∧ c ≤ maxLen ∧ RdV w A (l.flatMap v4) ∧ l.length * 32 ≤ 140737488351232 ∧ ∀ y ∈ l, isI64 y.1 ∧ isI64 y.2.1 ∧ isI64 y.2.2.1 ∧ isI64 y.2.2.2 := by
  refine open_elems v4 (fun y => isI64 y.1 ∧ isI64 y.2.1 ∧ isI64 y.2.2.1 ∧ isI64 y.2.2.2) 4 32 ht ce be (fun _ => rfl) (by decide) (fun n cs x hx _ => ?_) h hz
  obtain ⟨hl, hi⟩ := arr_at he hq cq ce hx
  obtain ⟨a, ha, wa⟩ := hi 0 (by decide)
  obtain ⟨b, hb, wb⟩ := hi 1 (by decide)
  obtain ⟨c, hc, wc⟩ := hi 2 (by decide)
  obtain ⟨d, hd, wd⟩ := hi 3 (by decide)
  refine ⟨(a, b, c, d), ?_, wa, wb, wc, wd⟩
  match cs, hl with
  | [u, v, z, y], _ => simp at ha hb hc hd; rw [ha, hb, hc, hd]; rfl
/-- A row of bools. -/
theorem open_bools {t e : TypeId} {fuel : Nat} {cs : List Value} {x : DataW H × List MemPlace} (ht : P.underlying t = some (.slice e)) (he : P.underlying e = some .bool) (ce : P.cellsOf e = 1) (be : P.bytesOf e = 1)
    (h : DataW.trod enc P w base spare held fuel t cs = some x) (hz : Sized P t x.1) :
    ∃ (A : Option Addr) (c : Nat) (l : List Bool), cs = [.slice A l.length c] ∧ l.length ≤ c ∧ c ≤ maxLen ∧ RdV w A (l.map Value.bool) ∧ l.length ≤ 140737488351232 := by
  obtain ⟨A, c, l, h1, h2, h3, h4, h5, _⟩ := open_elems (fun b : Bool => [Value.bool b]) (fun _ => True) 1 1 ht ce be (fun _ => rfl) (by decide) (fun n cs x hx _ => by
    obtain ⟨b, hb, _⟩ := DataW.trod_bool he hx
    exact ⟨b, hb, trivial⟩) h hz
  refine ⟨A, c, l, h1, h2, h3, ?_, by omega⟩
  have e : l.flatMap (fun b : Bool => [Value.bool b]) = l.map Value.bool := by
    rw [List.flatMap_def]
    clear h1 h2 h4 h5
    rename_i hq
    clear hq
    induction l with
    | nil => rfl
    | cons b l ih => rw [List.map_cons, List.flatten_cons, ih]; rfl
  rwa [e] at h4
end
end Go.Proofs.Ytaoenbjfkahdjaa
namespace Go.Proofs.Ytaoenbjfkahdjaa
open Go.RowKit Go.ChangeShapes Go.WideShapes Go.Deep
set_option linter.unusedVariables false
set_option maxRecDepth 100000

instance : Inhabited En := ⟨⟨(none, 0, []), (none, 0, []), 0, false⟩⟩
/-- What is known of an entry that comes in. -/
structure EnIn (w : World) (e : En) : Prop where
  r : EnR w e
  k1 : e.key.2.2.length ≤ 140737488351232
  k2 : e.key.2.2.length ≤ e.key.2.1
  k3 : e.key.2.1 ≤ maxLen
  v1 : e.value.2.2.length ≤ 140737488351232
  v2 : e.value.2.2.length ≤ e.value.2.1
  v3 : e.value.2.1 ≤ maxLen
  s : isI64 e.seq
theorem EnIn.new {w w' : World} {e : En} (h : EnIn w e) (k : Chg No w w') : EnIn w' e := ⟨h.r.new k, h.k1, h.k2, h.k3, h.v1, h.v2, h.v3, h.s⟩
theorem EnIn.ens {w : World} {es : List En} (h : ∀ e ∈ es, EnIn w e) : EnsR w es := fun e he => (h e he).r
section
variable {H : Type} {enc : TypeId × Value → H} {w : World} {base : Nat} {spare : Nat → Bool} {held : Bool}
theorem Sized.field {P : Program} {t tj : TypeId} {fs : Array Field} {parts : List (DataW H)} {j : Nat} {d : DataW H} (h : Sized P t (.agg parts)) (hu : P.underlying t = some (.struct fs)) (ht : (fs.toList.map (·.type))[j]? = some tj) (hd : parts[j]? = some d) : Sized P tj d :=
  fun n hn => h n (by simp only [DataW.weights, hu]; exact DataW.weights_mem_each ht hd n hn)
theorem cells_int : Try.prog.cellsOf 3 = 1 := by kernel_rfl
theorem cells_bool : Try.prog.cellsOf 4 = 1 := by kernel_rfl
theorem cells_bytes : Try.prog.cellsOf 32 = 1 := by kernel_rfl
theorem cells_entry : Try.prog.cellsOf 34 = 4 := by kernel_rfl
theorem entry_of {n : Nat} {cs : List Value} {x : DataW H × List MemPlace} (h : DataW.trod enc Try.prog w base spare held n 34 cs = some x) (hz : Sized Try.prog 34 x.1) :
    ∃ e : En, cs = enV e ∧ EnIn w e := by
  obtain ⟨xs, m, rfl, hx, hl, hxl, hi⟩ := DataW.trod_struct Try.underlying34 h
  have hl4 : cs.length = 4 := hl.trans (by kernel_rfl)
  have hx4 : xs.length = 4 := hxl
  match cs, hl4, xs, hx4 with
  | [c0, c1, c2, c3], _, [x0, x1, x2, x3], _ =>
    have f0 : DataW.trod enc Try.prog w base spare held m 32 [c0] = some x0 := by have := hi 0 _ rfl; simpa [cells_bytes] using this
    have f1 : DataW.trod enc Try.prog w base spare held m 32 [c1] = some x1 := by have := hi 1 _ rfl; simpa [cells_bytes] using this
    have f2 : DataW.trod enc Try.prog w base spare held m 3 [c2] = some x2 := by have := hi 2 _ rfl; simpa [cells_bytes, cells_int] using this
    have f3 : DataW.trod enc Try.prog w base spare held m 4 [c3] = some x3 := by have := hi 3 _ rfl; simpa [cells_bytes, cells_int, cells_bool] using this
    subst hx
    have hz0 : Sized Try.prog 32 x0.1 := Sized.field hz Try.underlying34 (j := 0) rfl rfl
    have hz1 : Sized Try.prog 32 x1.1 := Sized.field hz Try.underlying34 (j := 1) rfl rfl
    obtain ⟨A0, k0, l0, e0, p1, p2, p3, p4, _⟩ := open_bytes Try.underlying32 Try.underlying5 (by kernel_rfl) (by kernel_rfl) f0 hz0
    obtain ⟨A1, k1, l1, e1, q1, q2, q3, q4, _⟩ := open_bytes Try.underlying32 Try.underlying5 (by kernel_rfl) (by kernel_rfl) f1 hz1
    obtain ⟨a2, e2, _, w2⟩ := DataW.trod_int Try.underlying3 f2
    obtain ⟨a3, e3, _⟩ := DataW.trod_bool Try.underlying4 f3
    injection e0 with e0 _
    injection e1 with e1 _
    injection e2 with e2 _
    injection e3 with e3 _
    subst e0; subst e1; subst e2; subst e3
    exact ⟨⟨(A0, k0, l0), (A1, k1, l1), a2, a3⟩, rfl, ⟨p3, q3⟩, p4, p1, p2, q4, q1, q2, bounds_i64 w2⟩
/-- Rows of entries that come in. -/
def EnsIn (w : World) (A : Option Addr) (c : Nat) (l : List En) : Prop := l.length ≤ c ∧ c ≤ maxLen ∧ RdV w A (l.flatMap enV) ∧ l.length * 64 ≤ 140737488351232 ∧ ∀ e ∈ l, EnIn w e
theorem open_entries {fuel : Nat} {cs : List Value} {x : DataW H × List MemPlace} (h : DataW.trod enc Try.prog w base spare held fuel 22 cs = some x) (hz : Sized Try.prog 22 x.1) :
    ∃ (A : Option Addr) (c : Nat) (l : List En), cs = [.slice A l.length c] ∧ EnsIn w A c l :=
  open_elems enV (EnIn w) 4 64 Try.underlying22 (by kernel_rfl) (by kernel_rfl) (fun _ => rfl) (by decide) (fun n cs x hx hz => entry_of hx hz) h hz
end
end Go.Proofs.Ytaoenbjfkahdjaa
namespace Go.Proofs.Ytaoenbjfkahdjaa
open Go.RowKit
set_option linter.unusedVariables false
set_option maxRecDepth 100000

/-- An entry as the laws cut it. -/
def cut7 (e : Ent) : Ent := ⟨e.key.take 128, if e.dead then [] else e.value.take 300, if e.seq < 0 then -(e.seq + 1) else e.seq, e.dead⟩
def rowP (l : List Ent) : List Pr := l.foldl (fun L e => insM (cut7 e) (clampH 1) L) []
/-- The row. -/
def rowL (l : List Ent) : List Ent := (rowP (l.take 60)).map (·.1)
theorem rowP_succ {l : List Ent} {k : Nat} (h : k < l.length) : rowP (l.take (k + 1)) = insM (cut7 l[k]) (clampH 1) (rowP (l.take k)) := by
  unfold rowP
  rw [List.take_succ_eq_append_getElem h, List.foldl_append]
  rfl
theorem ins_pw {e : Ent} {h : Nat} {L : List Pr} (hs : (L.map (·.1)).Pairwise LTE) : ((insM e h L).map (·.1)).Pairwise LTE := by
  unfold insM
  cases ht : twiceM e L with
  | true => exact hs
  | false =>
    simp only [Bool.false_eq_true, if_false]
    have e1 : L = aheadM e L ++ behindM e L := (List.takeWhile_append_dropWhile).symm
    have ha : ∀ p ∈ aheadM e L, LTE p.1 e := by
      intro p hp
      unfold aheadM at hp
      have : ∀ (q : Pr → Bool) (M : List Pr) (x : Pr), x ∈ M.takeWhile q → q x = true := by
        intro q M
        induction M with
        | nil => intro x hx; simp at hx
        | cons y M ih =>
          intro x hx
          rw [List.takeWhile_cons] at hx
          split at hx
          · rename_i hy
            rcases List.mem_cons.1 hx with rfl | hx
            · exact hy
            · exact ih x hx
          · simp at hx
      exact this (fun p => lessE p.1 e) L p hp
    rw [e1, List.map_append, List.pairwise_append] at hs
    rw [List.map_append, List.map_cons, List.pairwise_append, List.pairwise_cons]
    have hb : ∀ x ∈ (behindM e L).map (·.1), LTE e x := by
      cases hd : behindM e L with
      | nil => simp
      | cons p s =>
        have h3 := List.head?_dropWhile_not (fun p : Pr => lessE p.1 e) L
        unfold behindM at hd
        rw [hd] at h3
        simp at h3
        have h0 : LTE e p.1 := by
          rcases lte_tri p.1 e with q | q | q
          · unfold LTE at q; rw [h3] at q; cases q
          · exact q
          · unfold twiceM behindM at ht
            rw [hd] at ht
            simp only [decide_eq_false_iff_not] at ht
            exact absurd (ord_zero.2 q) ht
        have hs2 := hs.2.1
        unfold behindM at hs2
        rw [hd, List.map_cons, List.pairwise_cons] at hs2
        intro x hx
        rw [List.map_cons] at hx
        rcases List.mem_cons.1 hx with rfl | hx
        · exact h0
        · exact lte_trans h0 (hs2.1 x hx)
    refine ⟨hs.1, ⟨hb, hs.2.1⟩, fun x hx y hy => ?_⟩
    obtain ⟨p, hp, rfl⟩ := List.mem_map.1 hx
    rcases List.mem_cons.1 hy with rfl | hy
    · exact ha p hp
    · exact lte_trans (ha p hp) (hb y hy)
theorem ins_sub {e : Ent} {h : Nat} {L : List Pr} (x : Ent) (hx : x ∈ (insM e h L).map (·.1)) : x = e ∨ x ∈ L.map (·.1) := by
  unfold insM at hx
  split at hx
  · exact .inr hx
  · rw [List.map_append, List.map_cons] at hx
    rcases List.mem_append.1 hx with hx | hx
    · obtain ⟨p, hp, rfl⟩ := List.mem_map.1 hx
      exact .inr (List.mem_map.2 ⟨p, (List.takeWhile_sublist _).subset hp, rfl⟩)
    · rcases List.mem_cons.1 hx with rfl | hx
      · exact .inl rfl
      · obtain ⟨p, hp, rfl⟩ := List.mem_map.1 hx
        exact .inr (List.mem_map.2 ⟨p, (List.dropWhile_suffix _).sublist.subset hp, rfl⟩)
theorem row_facts : ∀ (l : List Ent) (L : List Pr), (L.map (·.1)).Pairwise LTE → (∀ x ∈ L.map (·.1), ∃ e, x = cut7 e) →
    ((l.foldl (fun L e => insM (cut7 e) (clampH 1) L) L).map (·.1)).Pairwise LTE ∧ ∀ x ∈ (l.foldl (fun L e => insM (cut7 e) (clampH 1) L) L).map (·.1), (∃ e ∈ l, x = cut7 e) ∨ x ∈ L.map (·.1)
  | [], L, h1, h2 => ⟨h1, fun x hx => .inr hx⟩
  | e :: l, L, h1, h2 => by
    have h3 := row_facts l (insM (cut7 e) (clampH 1) L) (ins_pw h1) (fun x hx => by
      rcases ins_sub x hx with rfl | hx
      · exact ⟨e, rfl⟩
      · exact h2 x hx)
    refine ⟨h3.1, fun x hx => ?_⟩
    rcases h3.2 x hx with ⟨y, hy, rfl⟩ | hx
    · exact .inl ⟨y, List.mem_cons_of_mem _ hy, rfl⟩
    · rcases ins_sub x hx with rfl | hx
      · exact .inl ⟨e, List.mem_cons_self, rfl⟩
      · exact .inr hx
theorem rowL_pw (l : List Ent) : (rowL l).Pairwise LTE := (row_facts (l.take 60) [] List.Pairwise.nil (by simp)).1
theorem rowL_mem {l : List Ent} {x : Ent} (hx : x ∈ rowL l) : ∃ e ∈ l, x = cut7 e := by
  rcases (row_facts (l.take 60) [] List.Pairwise.nil (by simp)).2 x hx with ⟨e, he, h⟩ | h
  · exact ⟨e, List.mem_of_mem_take he, h⟩
  · simp at h
theorem ins_len_le (e : Ent) (h : Nat) (L : List Pr) : (insM e h L).length ≤ L.length + 1 := by
  unfold insM
  split
  · omega
  · have e1 : L.length = (aheadM e L ++ behindM e L).length := by rw [show aheadM e L ++ behindM e L = L from List.takeWhile_append_dropWhile]
    rw [List.length_append] at e1
    simp only [List.length_append, List.length_cons]
    omega
theorem foldl_len : ∀ (l : List Ent) (L : List Pr), (l.foldl (fun L e => insM (cut7 e) (clampH 1) L) L).length ≤ L.length + l.length
  | [], L => by simp
  | e :: l, L => by
    have h1 := foldl_len l (insM (cut7 e) (clampH 1) L)
    have h2 := ins_len_le (cut7 e) (clampH 1) L
    rw [List.foldl_cons, List.length_cons]
    omega
theorem rowL_len (l : List Ent) : (rowL l).length ≤ 60 := by
  unfold rowL rowP
  have h1 := foldl_len (l.take 60) []
  rw [List.length_take] at h1
  rw [List.length_map]
  simp at h1
  omega
theorem sortedB_pw {L : List Ent} (h : L.Pairwise LTE) : sortedB L = true := (sortedB_iff L).2 fun i hi => List.pairwise_iff_getElem.1 h i (i + 1) (by omega) hi (by omega)
/-- The row is laid. -/
theorem rowL_ok (l : List Ent) (h : ∀ e ∈ l, isI64 e.seq) : buildE (rowL l) = 0 := by
  unfold buildE
  rw [sortedB_pw (rowL_pw l), if_neg (by simp), if_neg]
  intro hh
  rcases hh with hh | hh
  · have := rowL_len l; omega
  · obtain ⟨x, hx, hm⟩ := List.any_eq_true.1 hh
    obtain ⟨e, he, rfl⟩ := rowL_mem hx
    have h1 := h e he
    have h2 : mayE (cut7 e) = true := by
      rw [mayE_iff]
      unfold cut7
      refine ⟨by simp; omega, by simp only; split <;> simp; omega, fun hd => by have hd : e.dead = true := hd; simp [hd], ?_⟩
      simp only
      split <;> omega
    rw [h2] at hm
    simp at hm
theorem rowL_seq {l : List Ent} (h : ∀ e ∈ l, isI64 e.seq) : ∀ e ∈ rowL l, e.seq < 9223372036854775808 := by
  intro x hx
  obtain ⟨e, he, rfl⟩ := rowL_mem hx
  have h1 := h e he
  unfold isI64 at h1
  unfold cut7
  simp only
  split <;> omega
end Go.Proofs.Ytaoenbjfkahdjaa
