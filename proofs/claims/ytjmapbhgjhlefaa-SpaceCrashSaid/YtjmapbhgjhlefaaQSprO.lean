/- SpaceCrash: the plain laws of each step. -/
import Derived.Test.YtjmapbhgjhlefaaQSprN
namespace Go.Proofs.Ytjmapbhgjhlefaa
open Go.RowKit
set_option linter.unusedVariables false
set_option maxRecDepth 100000

section
variable {sf : Nat → Nat} {N c n : Nat} {D : Dk} {S T : Spc} {fs us ts : List Rf} {lim : Nat} {add : List Fi} {drop : List Int}
/-- What is added lies beside all that was. -/
theorem radd_mem : ∀ (add : List Fi) (lie : List (Nat × Nat)) (ts ts' : List Rf), raddX n add lie ts = some ts' → (∀ x ∈ add, 1 ≤ x.blocks) → LieOk n lie →
    ∀ f ∈ ts', f ∈ ts ∨ ((∃ x ∈ add, f.num = x.num.toNat) ∧ f.safe = 0 ∧ f.fr = [] ∧ f.fv = .slice none 0 0 ∧ ∀ p ∈ lie, p.1 ≠ f.first)
  | [], lie, ts, ts', h, _, _ => fun f hf => by
    injection h with h
    subst h
    exact .inl hf
  | x :: add, lie, ts, ts', h, hb, hl => fun f hf => by
    have hx := hb x (by simp)
    have hp := (place_sort hx hl).1
    obtain ⟨a, o, e⟩ : ∃ a o, placeX n x.blocks 2 (sortF lie) = (a, o) := ⟨_, _, rfl⟩
    rw [e] at hp
    cases o with
    | false => rw [raddX_no e] at h; cases h
    | true =>
      rw [raddX_yes e] at h
      obtain ⟨p1, p2⟩ := hp rfl
      have hl2 := hl.snoc hx p1 p2
      rcases radd_mem add _ _ ts' h (fun y hy => hb y (List.mem_cons_of_mem _ hy)) hl2 f hf with h1 | ⟨⟨y, hy, h1⟩, h2, h3, h4, h5⟩
      · rcases List.mem_cons.1 ((insRf_perm _ ts).mem_iff.1 h1) with rfl | h1
        · right
          refine ⟨⟨x, List.mem_cons_self, rfl⟩, rfl, rfl, rfl, fun p hp e2 => ?_⟩
          have h6 := hl.each p hp
          have e3 : p.1 = a := e2
          rcases p2.2 p hp with h7 | h7
          · have h8 : (a : Int) + x.blocks ≤ p.1 := h7
            omega
          · have h8 : p.1 + p.2 ≤ a := h7
            omega
        · exact .inl h1
      · exact .inr ⟨⟨y, List.mem_cons_of_mem _ hy, h1⟩, h2, h3, h4, fun p hp => h5 p (List.mem_append_left _ hp)⟩
/-- The places of files with different numbers. -/
theorem nums_find (hn : fs.Pairwise fun a b => a.num < b.num) {i : Nat} (hi : i < fs.length) : findB fs (fs[i].num : Int) = true ∧ findZ fs (fs[i].num : Int) = (i : Int) :=
  findZ_at hi rfl fun j hj hji => by
    have := List.pairwise_iff_getElem.1 hn j i hj hi hji
    omega
/-- A Switch under way: what is safe of the files that it would make. -/
theorem uns_safe (hn : fs.Pairwise fun a b => a.num < b.num) (hl : LieOk n (fs.map rfLie)) (hs : ∀ f ∈ fs, f.safe ≤ sf f.num) (ha : GoodA fs drop add) (hr : raddX n add (fs.map rfLie) (keptR drop fs) = some ts) :
    ∀ f ∈ ts.map (unsR fs), f.safe ≤ (if (f.num : Int) ∈ add.map (·.num) then 0 else sf f.num) := fun u hu => by
  obtain ⟨f, hf, rfl⟩ := List.mem_map.1 hu
  show safeOf fs f ≤ (if (f.num : Int) ∈ add.map (·.num) then 0 else sf f.num)
  rcases radd_mem add _ _ ts hr (fun x hx => (ha.each x hx).1.2.2) hl f hf with h1 | ⟨⟨x, hx, h1⟩, h2, h3, h4, h5⟩
  · unfold keptR at h1
    obtain ⟨g, hg, rfl⟩ := List.mem_map.1 h1
    rw [List.mem_filter] at hg
    obtain ⟨hg1, hg2⟩ := hg
    have hnd : (g.num : Int) ∉ drop := by simpa using hg2
    obtain ⟨i, hi, rfl⟩ := List.mem_iff_getElem.1 hg1
    obtain ⟨k1, k2⟩ := nums_find hn hi
    have h6 : safeOf fs { fs[i] with safe := fs[i].fr.length } = fs[i].safe := by
      have h7 := safeOf_yes (f := { fs[i] with safe := fs[i].fr.length }) hi k1 k2
      rw [h7]
      exact if_pos rfl
    rw [h6]
    rw [if_neg]
    · exact hs _ hg1
    · intro hm
      obtain ⟨x, hx, e⟩ := List.mem_map.1 hm
      rcases (ha.each x hx).2 with q | q
      · have e2 : x.num = (fs[i].num : Int) := e
        rw [e2, k1] at q
        cases q
      · have e2 : x.num = (fs[i].num : Int) := e
        exact hnd (e2 ▸ q)
  · have h6 : safeOf fs f = 0 := by
      cases hb : findB fs (f.num : Int) with
      | false => rw [safeOf_no hb, h2]
      | true =>
        obtain ⟨i, hi, e1, e2⟩ := findZ_is hb
        rw [safeOf_yes hi hb e1, if_neg, h2]
        intro e3
        have h7 : fs[i].first = f.first := congrArg (fun q : Nat × Nat × Nat => q.2.1) e3
        exact h5 (rfLie fs[i]) (List.mem_map_of_mem (List.getElem_mem hi)) h7
    rw [h6]
    exact Nat.zero_le _
theorem uns_key (ts : List Rf) : (ts.map (unsR fs)).map keyR = ts.map keyR := by rw [List.map_map]; rfl
theorem CrIn.nums (h : CrIn N c D S fs) : fs.Pairwise fun a b => a.num < b.num := by
  obtain ⟨sf, lim, h1, h2, h3⟩ := h.good
  have h4 : (S.files.map (·.num)).Pairwise fun a b => a < b := List.pairwise_map.2 h2.fils.ok.nums
  rw [← h.mat.nums] at h4
  exact List.pairwise_map.1 h4
theorem CrIn.lie (h : CrIn N c D S fs) : LieOk N (fs.map rfLie) := by
  obtain ⟨sf, lim, h1, h2, _⟩ := h.good
  have h3 := h2.fils.ok.lieOk
  rw [h.len] at h3
  rw [← h.mat.lie]
  exact h3
theorem CrIn.few (h : CrIn N c D S fs) : fs.length ≤ 24 := by
  obtain ⟨sf, lim, h1, h2, _⟩ := h.good
  have := h2.fils.ok.count
  have := h.mat.len
  omega
theorem CrIn.sizes (h : CrIn N c D S fs) : ∀ f ∈ fs, f.fr.length ≤ 65536 ∧ f.blocks ≤ 65536 := fun f hf => by
  obtain ⟨sf, lim, h1, h2, _⟩ := h.good
  obtain ⟨i, hi, rfl⟩ := List.mem_iff_getElem.1 hf
  obtain ⟨hj, e1, e2, e3, e4⟩ := h.mat.at hi
  have h3 := h2.file (List.getElem_mem hj)
  have h4 : S.files[i].frames.length = fs[i].fr.length := by rw [← e4]; unfold txt; rw [List.length_map]
  omega
theorem CrIn.isOn (h : CrIn N c D S fs) : D.off = false := by
  obtain ⟨sf, lim, h1, h2, _⟩ := h.good
  exact h2.fils.off
theorem CrIn.mono {d : Nat} (h : CrIn N c D S fs) (hd : c ≤ d) : CrIn N d D S fs := by
  obtain ⟨sf, lim, h1, h2, h3⟩ := h.good
  exact ⟨⟨sf, lim, by omega, h2, h3⟩, h.mat, h.len, h.cnt.mono hd, h.armed⟩
theorem CrIn.begins (hN : 2 ≤ N ∧ N ≤ 65536) : CrIn N 1 (beginD N) ⟨1, 1, []⟩ [] :=
  ⟨⟨_, 1, Nat.le_refl _, begin_good hN.1 hN.2, by simp⟩, rfl, begin_len, begin_cnt, by rw [begin_armed]; omega⟩
theorem CrIn.arm (h : CrIn N c D S fs) {a : Nat} (ha : a ≤ 9223372036854775807) : CrIn N c { D with armed := a } S fs := by
  obtain ⟨sf, lim, h1, h2, h3⟩ := h.good
  exact ⟨⟨sf, lim, h1, good_armed h2 a, h3⟩, h.mat, h.len, ⟨h.cnt.writes, h.cnt.pend⟩, ha⟩
theorem CrIn.sync (h : CrIn N c D S fs) : D.flush.2 = 0 ∧ CrIn N c D.flush.1 S (fs.map syR) := by
  obtain ⟨sf, lim, h1, h2, h3⟩ := h.good
  have ho := h2.fils.off
  refine ⟨by rw [flush_on D ho], ⟨_, lim, h1, good_flush h2, fun f hf => ?_⟩, mat_sy h.mat, (came_flush h2.fils.wf ho).len.trans h.len, h.cnt.flush ho, by rw [flush_armed ho]; exact h.armed⟩
  obtain ⟨g, hg, rfl⟩ := List.mem_map.1 hf
  obtain ⟨i, hi, rfl⟩ := List.mem_iff_getElem.1 hg
  obtain ⟨hj, e1, e2, e3, e4⟩ := h.mat.at hi
  show fs[i].fr.length ≤ lenAt S.files fs[i].num
  rw [e1]
  unfold lenAt
  rw [find_num h2.fils.ok.nums (List.getElem_mem hj)]
  show _ ≤ S.files[i].frames.length
  rw [← e4]
  unfold txt
  rw [List.length_map]
  exact Nat.le_refl _
theorem find_yes (hg : Good D S sf lim) (hm : Mat S fs) {i : Nat} (hi : i < fs.length) : ∃ hj : i < S.files.length, S.find (fs[i].num : Int) = some S.files[i] ∧ S.files[i].frames.length = fs[i].fr.length ∧ S.files[i].blocks = fs[i].blocks := by
  obtain ⟨hj, e1, e2, e3, e4⟩ := hm.at hi
  exact ⟨hj, by rw [e1]; exact find_is hg (List.getElem_mem hj), by rw [← e4]; unfold txt; rw [List.length_map], e3.symm⟩
/-- An Append: done, or refused, or power went off with it. -/
theorem CrIn.app {k z : Int} {p : List UInt8} {fs' : List Rf} (h : CrIn N c D S fs) (hr : RAppR fs k p z fs') (hc : c + 1 ≤ 1000000000) :
    (∃ T E, S.append k p D = (T, E, z) ∧ E.off = false ∧ CrIn N (c + 1) E T fs') ∨
    (∃ E, S.append k p D = (S, E, 21) ∧ E.off = true ∧ E.cells.length = N ∧ Cnt E (c + 1) ∧ ∀ us, CrOff (c + 1) E fs' us) := by
  obtain ⟨sf, lim, h1, h2, h3⟩ := h.good
  have hnew : ∀ f ∈ fs', f.safe ≤ sf f.num := fun f hf => by
    rcases hr with ⟨_, _, rfl⟩ | ⟨i, hi, hn, ⟨_, _, rfl⟩ | ⟨_, _, _, rfl⟩ | ⟨_, _, _, fv, A, c, rfl⟩⟩
    · exact h3 f hf
    · exact h3 f hf
    · exact h3 f hf
    · rcases List.mem_or_eq_of_mem_set hf with h4 | rfl
      · exact h3 f h4
      · exact h3 fs[i] (List.getElem_mem hi)
  by_cases ha : D.armed = 1
  · have hq := append_cases h2 k p
    generalize hR : S.append k p D = R at hq
    have keep : R = (S, D, z) → fs' = fs → (∃ T E, R = (T, E, z) ∧ E.off = false ∧ CrIn N (c + 1) E T fs') := fun e1 e2 => ⟨S, D, e1, h.isOn, by rw [e2]; exact h.mono (by omega)⟩
    have hfi := findB_find h.mat.nums k
    rcases hr with ⟨k1, rfl, rfl⟩ | ⟨i, hi, hn, hr⟩
    · rw [k1] at hfi
      left
      apply keep _ rfl
      have h5 : S.find k = none := by cases hh : S.find k with | none => rfl | some f => rw [hh] at hfi; cases hfi
      rw [← hR]; unfold Spc.append; rw [h5]
    · obtain ⟨hj, q1, q2, q3⟩ := find_yes h2 h.mat hi
      rw [hn] at q1
      rcases hr with ⟨r1, rfl, rfl⟩ | ⟨r1, r2, rfl, rfl⟩ | ⟨r1, r2, rfl, fv, A, c2, rfl⟩
      · left
        apply keep _ rfl
        rw [← hR]; unfold Spc.append; rw [q1]; simp only; rw [if_pos r1]
      · left
        apply keep _ rfl
        rw [← hR]; unfold Spc.append; rw [q1]; simp only; rw [if_neg (by omega), if_pos (by omega)]
      · right
        have hle := (h2.file (List.getElem_mem hj)).1
        cases hq with
        | none g1 e => rw [q1] at g1; cases g1
        | long f' g1 g2 e => omega
        | full f' g1 g2 g3 e => rw [q1] at g1; injection g1 with g1; subst g1; omega
        | ok f' g1 g2 g3 g4 e g => exact absurd ha g4
        | off f' g1 g2 g3 g4 e =>
          refine ⟨_, e, took_off ha, h.len, h.cnt.took, fun us keep torn bytes => ?_⟩
          obtain ⟨hm, _⟩ := find_mem g1
          have hg2 := good_append h2 hm (p := p) (by omega) g3
          rw [q1] at g1
          injection g1 with g1
          have hM : Mat (S.grow f'.num p) (fs.set i { fs[i] with fv := fv, fr := fs[i].fr ++ [(A, c2, p)] }) := by
            obtain ⟨T, E, e1, _, hM, _⟩ := app_both (good_armed h2 0) (by simp) h.mat (k := k) (z := 0) (p := p) (.inr ⟨i, hi, hn, .inr (.inr ⟨r1, r2, rfl, fv, A, c2, rfl⟩)⟩)
            obtain ⟨E', e2, _⟩ := app_ok (good_armed h2 0) (by simp) q1 r1 (by omega)
            rw [e2] at e1
            injection e1 with e1 _
            rw [← e1, g1] at hM
            exact hM
          obtain ⟨T, t1, t2, t3⟩ := good_crash hg2 (by omega) hM hnew keep torn bytes
          rw [took_crash]
          exact ⟨T, t1, ⟨_, by omega, t2⟩, .inl t3⟩
  · left
    obtain ⟨T, E, e, g, m, l, a, a2, cn⟩ := app_both h2 ha h.mat hr
    exact ⟨T, E, e, g.fils.off, ⟨sf, lim, by omega, g, hnew⟩, m, l.trans h.len, cn _ h.cnt, Nat.le_trans a h.armed⟩
/-- A Switch that is refused. -/
theorem CrIn.sw_no {z : Int} (h : CrIn N c D S fs) (hc : c + 1 ≤ 1000000000) (hz : (z = 31 ∧ ¬ (GoodA fs drop add ∧ GoodDr fs drop)) ∨ (GoodA fs drop add ∧ GoodDr fs drop ∧ (24 : Int) < (fs.length : Int) + add.length - drop.length ∧ z = 32) ∨
     (GoodA fs drop add ∧ GoodDr fs drop ∧ ¬ (24 : Int) < (fs.length : Int) + add.length - drop.length ∧ raddX N add (fs.map rfLie) (keptR drop fs) = none ∧ z = 33)) : S.switch add drop D = (S, D, z) := by
  obtain ⟨sf, lim, h1, h2, h3⟩ := h.good
  have hmay : S.may add drop = true ↔ GoodA fs drop add ∧ GoodDr fs drop := by
    unfold Spc.may
    rw [Bool.and_eq_true, goodA_may h.mat.nums, goodD_may h.mat.nums]
    exact ⟨fun ⟨a, b⟩ => ⟨b, a⟩, fun ⟨a, b⟩ => ⟨b, a⟩⟩
  have hlen := h.mat.len
  have hq := switch_cases h2 (by omega) add drop
  generalize hR : S.switch add drop D = R at hq
  rcases hz with ⟨rfl, q⟩ | ⟨a, b, q, rfl⟩ | ⟨a, b, q, q2, rfl⟩
  · cases hq with
    | no g e => exact e
    | many g g2 e => exact absurd (hmay.1 g) q
    | full g g2 g3 e => exact absurd (hmay.1 g) q
    | off fs2 g g2 g3 ga gn e => exact absurd (hmay.1 g) q
    | ok fs2 g g2 g3 ga gn e gg => exact absurd (hmay.1 g) q
  · have hy := hmay.2 ⟨a, b⟩
    cases hq with
    | no g e => rw [hy] at g; cases g
    | many g g2 e => exact e
    | full g g2 g3 e => omega
    | off fs2 g g2 g3 ga gn e => omega
    | ok fs2 g g2 g3 ga gn e gg => omega
  · have hy := hmay.2 ⟨a, b⟩
    have hno : addX D.cells.length (S.turn + 1) add S.lie (S.files.filter fun f => !drop.contains (f.num : Int)) = none := by
      rw [h.mat.lie, h.len]
      exact radd_none add _ _ _ q2
    cases hq with
    | no g e => rw [hy] at g; cases g
    | many g g2 e => omega
    | full g g2 g3 e => exact e
    | off fs2 g g2 g3 ga gn e => rw [hno] at g3; cases g3
    | ok fs2 g g2 g3 ga gn e gg => rw [hno] at g3; cases g3
/-- A Switch that may be: done, or power went off with it. -/
theorem CrIn.sw_yes (h : CrIn N c D S fs) (hc : c + 2 ≤ 1000000000) (ha : GoodA fs drop add) (hb : GoodDr fs drop) (h24 : ¬ (24 : Int) < (fs.length : Int) + add.length - drop.length) (hr : raddX N add (fs.map rfLie) (keptR drop fs) = some ts) :
    (∃ T E, S.switch add drop D = (T, E, 0) ∧ E.off = false ∧ CrIn N (c + 2) E T ts) ∨
    (∃ E, S.switch add drop D = (S, E, 21) ∧ E.off = true ∧ E.cells.length = N ∧ Cnt E (c + 2) ∧ CrOff (c + 2) E fs (ts.map (unsR fs))) := by
  obtain ⟨sf, lim, h1, h2, h3⟩ := h.good
  by_cases har : D.armed = 1
  · right
    have hmay : S.may add drop = true := by
      unfold Spc.may
      rw [Bool.and_eq_true, goodA_may h.mat.nums, goodD_may h.mat.nums]
      exact ⟨hb, ha⟩
    have hlen := h.mat.len
    have hq := switch_cases h2 (by omega) add drop
    obtain ⟨news, k1, k2⟩ := radd_some (t := S.turn + 1) add _ _ ts _ (S.files.filter fun f => !drop.contains (f.num : Int)) (kept_key (drop := drop) h.mat) hr
    have hxx : addX D.cells.length (S.turn + 1) add S.lie (S.files.filter fun f => !drop.contains (f.num : Int)) = some ((S.files.filter fun f => !drop.contains (f.num : Int)) ++ news) := by
      rw [h.mat.lie, h.len]
      exact k1
    generalize hR : S.switch add drop D = R at hq
    cases hq with
    | no g e => rw [hmay] at g; cases g
    | many g g2 e => omega
    | full g g2 g3 e => rw [hxx] at g3; cases g3
    | ok fs2 g g2 g3 ga gn e gg => exact absurd har ga
    | off fs2 g g2 g3 ga gn e =>
      refine ⟨_, e, took_off har, h.len, h.cnt.took.mono (by omega), fun keep torn bytes => ?_⟩
      have hkept : (S.files.filter fun f => !drop.contains (f.num : Int)).Pairwise ltN := List.Pairwise.filter _ h2.fils.ok.nums
      rw [hxx] at g3
      injection g3 with g3
      have hnd : ((S.files.filter fun f => !drop.contains (f.num : Int)) ++ news).map (·.num) |>.Nodup := by
        rw [g3]
        have h5 : ((sortN fs2).map (·.num)).Nodup := List.pairwise_map.2 (gn.ok.nums.imp fun h => Nat.ne_of_lt h)
        exact (((sortN_perm fs2).map _).nodup_iff).1 h5
      have h6 := addR_all news _ hkept hnd
      rw [h6, g3] at k2
      have hc2 : Came (D.wr (1 - S.slot) (sealB (S.turn + 1) ((sortN fs2).map Fl.hd))) ((D.took (1 - S.slot) (sealB (S.turn + 1) ((sortN fs2).map Fl.hd))).crash keep torn bytes) := by
        rw [took_crash]
        exact came_crash (wr_wf h2.fils.wf (by have := h2.fils.two; omega) (sealB_len (by rw [List.length_map]; exact gn.ok.count)))
      rcases found_head h2 gn (by omega) hc2 with ⟨gs, e1, e2, e3⟩ | ⟨gs, e1, e2, e3⟩
      · obtain ⟨a, b⟩ := fewer_stand e2 h.mat h3
        exact ⟨_, e1, ⟨_, by omega, e3⟩, .inl ⟨a, b⟩⟩
      · have hs := uns_safe (sf := sf) h.nums h.lie h3 ha hr
        obtain ⟨a, b⟩ := fewer_stand (sf := fun num => if (num : Int) ∈ add.map (·.num) then 0 else sf num) (fs := ts.map (unsR fs)) e2 (by rw [uns_key]; exact k2) hs
        exact ⟨_, e1, ⟨_, by omega, e3⟩, .inr ⟨a, b⟩⟩
  · left
    obtain ⟨_, _, _, p4⟩ := sw_both (add := add) (drop := drop) h2 (by omega) har h.mat
    obtain ⟨T, E, sg, e, g, m, l, a, cn, hsg⟩ := p4 ts ha hb h24 (by rw [h.len]; exact hr)
    refine ⟨T, E, e, g.fils.off, ⟨sg, lim + 1, by omega, g, fun f hf => ?_⟩, m, l.trans h.len, (cn _ h.cnt).mono (by omega), by rw [a]; have := h.armed; omega⟩
    have hsafe : f.safe ≤ f.fr.length := by
      rcases radd_mem add _ _ ts hr (fun x hx => (ha.each x hx).1.2.2) h.lie f hf with h1 | ⟨_, h2, h3, _⟩
      · unfold keptR at h1
        obtain ⟨g, hg, rfl⟩ := List.mem_map.1 h1
        exact Nat.le_refl _
      · rw [h2]; exact Nat.zero_le _
    obtain ⟨i, hi, rfl⟩ := List.mem_iff_getElem.1 hf
    obtain ⟨hj, e1, e2, e3, e4⟩ := m.at hi
    refine Nat.le_trans hsafe ?_
    rw [hsg, e1]
    unfold lenAt
    rw [find_num g.fils.ok.nums (List.getElem_mem hj)]
    show _ ≤ T.files[i].frames.length
    rw [← e4]
    unfold txt
    rw [List.length_map]
    exact Nat.le_refl _
theorem CrOff.mono {d : Nat} (h : CrOff c D fs us) (hd : c ≤ d) : CrOff d D fs us := fun keep torn bytes => by
  obtain ⟨T, a, ⟨lim, b1, b2⟩, e⟩ := h keep torn bytes
  exact ⟨T, a, ⟨lim, by omega, b2⟩, e⟩
theorem CrIn.fits (h : CrIn N c D S fs) : ∀ f ∈ fs, f.fr.length ≤ f.blocks ∧ f.blocks ≤ 65536 := fun f hf => by
  obtain ⟨sf, lim, h1, h2, _⟩ := h.good
  obtain ⟨i, hi, rfl⟩ := List.mem_iff_getElem.1 hf
  obtain ⟨hj, e1, e2, e3, e4⟩ := h.mat.at hi
  have h3 := h2.file (List.getElem_mem hj)
  have h4 : S.files[i].frames.length = fs[i].fr.length := by rw [← e4]; unfold txt; rw [List.length_map]
  omega
theorem rapp_len {k z : Int} {p : List UInt8} {fs' : List Rf} (hr : RAppR fs k p z fs') : fs'.length = fs.length := by
  rcases hr with ⟨_, _, rfl⟩ | ⟨i, hi, hn, ⟨_, _, rfl⟩ | ⟨_, _, _, rfl⟩ | ⟨_, _, _, fv, A, c, rfl⟩⟩
  · rfl
  · rfl
  · rfl
  · rw [List.length_set]
theorem rapp_sz {k z : Int} {p : List UInt8} {fs' : List Rf} (hr : RAppR fs k p z fs') (h : ∀ f ∈ fs, f.fr.length ≤ f.blocks ∧ f.blocks ≤ 65536) : ∀ f ∈ fs', f.fr.length ≤ 65536 := fun f hf => by
  have old : ∀ f ∈ fs, f.fr.length ≤ 65536 := fun f hf => by have := h f hf; omega
  rcases hr with ⟨_, _, rfl⟩ | ⟨i, hi, hn, ⟨_, _, rfl⟩ | ⟨_, _, _, rfl⟩ | ⟨_, hne, _, fv, A, c, rfl⟩⟩
  · exact old f hf
  · exact old f hf
  · exact old f hf
  · rcases List.mem_or_eq_of_mem_set hf with h4 | rfl
    · exact old f h4
    · have := h _ (List.getElem_mem hi)
      show (fs[i].fr ++ [(A, c, p)]).length ≤ 65536
      rw [List.length_append]
      show fs[i].fr.length + 1 ≤ 65536
      omega
theorem raddX_cnt : ∀ (add : List Fi) (lie : List (Nat × Nat)) (ts ts' : List Rf), raddX n add lie ts = some ts' → ts'.length = ts.length + add.length
  | [], lie, ts, ts', h => by injection h with h; subst h; rfl
  | x :: add, lie, ts, ts', h => by
    obtain ⟨a, o, e⟩ : ∃ a o, placeX n x.blocks 2 (sortF lie) = (a, o) := ⟨_, _, rfl⟩
    cases o with
    | false => rw [raddX_no e] at h; cases h
    | true =>
      rw [raddX_yes e] at h
      rw [raddX_cnt add _ _ ts' h, (insRf_perm _ ts).length_eq, List.length_cons, List.length_cons]
      omega
theorem raddX_len (hr : raddX n add (fs.map rfLie) (keptR drop fs) = some ts) (hf : fs.length ≤ 24) (ha : add.length ≤ 30) : ts.length ≤ 1000 := by
  rw [raddX_cnt add _ _ ts hr]
  have : (keptR drop fs).length ≤ fs.length := by unfold keptR; rw [List.length_map]; exact List.length_filter_le _ _
  omega
/-- What lists the files behind a Switch hold can be read. -/
theorem uns_fr {W : World} (hr : raddX n add (fs.map rfLie) (keptR drop fs) = some ts) (hb : ∀ x ∈ add, 1 ≤ x.blocks) (hl : LieOk n (fs.map rfLie)) (h : ∀ f ∈ fs, FrOk W f) : ∀ f ∈ ts.map (unsR fs), FrOk W f := fun u hu => by
  obtain ⟨f, hf, rfl⟩ := List.mem_map.1 hu
  show FrOk W f
  rcases radd_mem add _ _ ts hr hb hl f hf with h1 | ⟨_, _, h3, h4, _⟩
  · unfold keptR at h1
    obtain ⟨g, hg, rfl⟩ := List.mem_map.1 h1
    exact h g (List.mem_filter.1 hg).1
  · refine ⟨none, 0, ?_, ?_, ?_⟩
    · rw [h3, h4]; rfl
    · rw [h3]; exact Nat.le_refl _
    · rw [h3]
      exact RdL.nil W none
theorem uns_sz (hr : raddX n add (fs.map rfLie) (keptR drop fs) = some ts) (hb : ∀ x ∈ add, 1 ≤ x.blocks) (hl : LieOk n (fs.map rfLie)) (h : ∀ f ∈ fs, f.fr.length ≤ 65536) : ∀ f ∈ ts.map (unsR fs), f.fr.length ≤ 65536 := fun u hu => by
  obtain ⟨f, hf, rfl⟩ := List.mem_map.1 hu
  show f.fr.length ≤ 65536
  rcases radd_mem add _ _ ts hr hb hl f hf with h1 | ⟨_, _, h3, h4, _⟩
  · unfold keptR at h1
    obtain ⟨g, hg, rfl⟩ := List.mem_map.1 h1
    exact h g (List.mem_filter.1 hg).1
  · rw [h3]; exact Nat.zero_le _
end
end Go.Proofs.Ytjmapbhgjhlefaa
