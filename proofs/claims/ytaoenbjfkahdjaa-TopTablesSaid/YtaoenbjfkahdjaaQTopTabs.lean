/- TopTables. (Written by gen_toptabs.py.) -/
import Derived.Deep.CutBlock
import Derived.Test.YtaoenbjfkahdjaaQ17
import Derived.Test.YtaoenbjfkahdjaaQMrgG
import Derived.Test.YtaoenbjfkahdjaaQMemG
import Derived.Test.YtaoenbjfkahdjaaQRgnZ
import Derived.Test.YtaoenbjfkahdjaaQAnd
namespace Go.Proofs.Ytaoenbjfkahdjaa
open Go.RowKit
set_option linter.unusedVariables false
set_option maxRecDepth 100000

theorem topnum_any (x : Int) (w : World) : Calls Try.prog 12 #[.int .i64 x] w fun e w' => e = .returned (.int .i64 x) ∧ w = w' := by
  go_enter Try.func12, Try.ntmps12
  go_wp2
  go_ret
  exact ⟨rfl, rfl⟩
theorem rng_all {L : List Ent} (h : ∀ e ∈ L, e.seq ≤ 9223372036854775807) : rngT [] [] L = L := by
  unfold rngT
  rw [drop_at]
  have h1 : ∀ L : List Ent, (∀ e ∈ L, e.seq ≤ 9223372036854775807) → L.dropWhile (fun x => lessE x (fromE [])) = L := fun L h => by
    cases L with
    | nil => rfl
    | cons e L =>
      rw [List.dropWhile_cons, if_neg]
      intro hl
      have h2 : LTE e (fromE []) := hl
      rcases lte_iff.1 h2 with h3 | ⟨_, h3⟩
      · have : Lib.compareBytes e.key [] < 0 := h3
        cases hk : e.key with
        | nil => rw [hk] at this; simp [Lib.compareBytes] at this
        | cons a l => rw [hk] at this; simp [Lib.compareBytes] at this
      · have h4 := h e List.mem_cons_self
        have h5 : (9223372036854775807 : Int) < e.seq := h3
        omega
  rw [h1 L h]
  exact (takeW_all fun x _ => by unfold inB; simp).1
/-- The parts of the law's row, each of its own. -/
def PartsP : List RwE → SP
  | [] => Emp
  | r :: Rs => Row 34 4 (rsv r) r.2.2.length (r.2.2.flatMap enV) * PartsP Rs
theorem partsP_at : ∀ (Rs : List RwE) (i : Nat) (h : i < Rs.length), PartsP Rs = Row 34 4 (rsv Rs[i]) Rs[i].2.2.length (Rs[i].2.2.flatMap enV) * PartsP (Rs.eraseIdx i)
  | r :: Rs, 0, _ => rfl
  | r :: Rs, i + 1, h => by
    have h' : i < Rs.length := by simpa using h
    show Row _ _ _ _ _ * PartsP Rs = Row _ 4 (rsv Rs[i]) _ _ * (Row _ _ _ _ _ * PartsP (Rs.eraseIdx i))
    rw [partsP_at Rs i h']
    ac_rfl
theorem partsP_set (Rs : List RwE) (i : Nat) (h : i < Rs.length) (r : RwE) : PartsP (Rs.set i r) = Row 34 4 (rsv r) r.2.2.length (r.2.2.flatMap enV) * PartsP (Rs.eraseIdx i) := by
  rw [partsP_at (Rs.set i r) i (by rw [List.length_set]; exact h), List.getElem_set_self, List.eraseIdx_set_eq]
theorem buildE_sub {L M : List Ent} (h : M.Sublist L) (hb : buildE L = 0) : buildE M = 0 := by
  have h1 := buildE_sorted hb
  have h2 : M.Pairwise LTE := (sorted_pw h1).sublist h
  have h3 := buildE_len hb
  have h4 := buildE_may hb
  unfold buildE
  rw [if_neg (by rw [sortedB_of h2]; simp), if_neg]
  rintro (h5 | h5)
  · have := h.length_le; omega
  · obtain ⟨e, he, h6⟩ := List.any_eq_true.1 h5
    rw [h4 e (h.mem he)] at h6
    cases h6
/-- To which part the i-th goes. -/
def spr (sp : List Int) (i : Nat) : Nat := match sp[i % sp.length]? with | some x => (x % 4 % 3).toNat | none => 0
theorem spr_lt (sp : List Int) (i : Nat) : spr sp i < 3 := by
  unfold spr
  split
  · omega
  · omega
theorem spr_at {sp : List Int} {i : Nat} (h : 0 < sp.length) (hi : i % sp.length < sp.length) : spr sp i = (sp[i % sp.length] % 4 % 3).toNat := by
  unfold spr
  rw [List.getElem?_eq_getElem hi]
theorem spr_none {sp : List Int} {i : Nat} (h : ¬ 0 < sp.length) : spr sp i = 0 := by
  unfold spr
  have : sp = [] := List.eq_nil_of_length_eq_zero (by omega)
  subst this
  rfl
/-- What holds in the first rounds. -/
structure T1 (w : World) (b hr g d : Nat) (es : List En) (sp : List Int) (i : Nat) (ns : List Nd) (Rs : List RwE) (wr : World) : Prop where
  tab : TabG ns i
  ents : entsN ns = (es.map En.ent).take i
  len : Rs.length = 3
  parts : ∀ k (h : k < Rs.length), Rs[k].2.2 = prt (spr sp) k 0 (es.take i)
  sat : Sat w (SkipT b hr ns * (Row 22 1 (.slice (some ⟨g, 0, none⟩) 3 d) 3 (Rs.map rsv) * (PartsP Rs * Emp))) wr
theorem info_intG : (Try.prog.info? 3).map (fun i => (i.zero, i.size, i.bytes)) = some (some (.int .i64 0), 1, 8) := by kernel_rfl
theorem ints_ones (l : List Int) : ∀ u ∈ l.map (fun n => Value.int .i64 n), u.oneCell' = true := fun u hu => by
  obtain ⟨n, _, rfl⟩ := List.mem_map.1 hu
  rfl
theorem owned_ownEG : ∀ es : List En, Owned (OwnE es)
  | [] => owned_emp
  | e :: es => owned_star (owned_row _ _ _ _ _) (owned_star (owned_row _ _ _ _ _) (owned_ownEG es))
/-- Rows that tables told. -/
def RwsP : List RwE → SP
  | [] => Emp
  | r :: Rs => (Row 34 4 (rsv r) r.2.2.length (r.2.2.flatMap enV) * OwnE r.2.2) * RwsP Rs
theorem rwsP_snoc (r : RwE) : ∀ Rs : List RwE, RwsP (Rs ++ [r]) = (Row 34 4 (rsv r) r.2.2.length (r.2.2.flatMap enV) * OwnE r.2.2) * RwsP Rs
  | [] => rfl
  | x :: Rs => by
    show (Row _ _ _ _ _ * OwnE _) * RwsP (Rs ++ [r]) = _
    rw [rwsP_snoc r Rs]
    show _ = (Row _ _ _ _ _ * OwnE _) * ((Row _ _ _ _ _ * OwnE _) * RwsP Rs)
    ac_rfl
theorem rwsP_r {w0 w : World} : ∀ {Rs : List RwE} {F : SP}, Sat w0 (RwsP Rs * F) w → (∀ r ∈ Rs, r.2.2.length ≤ 1000000) → RwsR w Rs
  | [], F, _, _ => ⟨by simp, by simp, by simp⟩
  | r :: Rs, F, h, hl => by
    have h1 : Sat w0 (Row 34 4 (.slice r.1 r.2.2.length r.2.1) r.2.2.length (r.2.2.flatMap enV) * (OwnE r.2.2 * (RwsP Rs * F))) w := h.of (by
      show ((Row _ 4 (.slice r.1 r.2.2.length r.2.1) _ _ * OwnE _) * RwsP Rs) * F = _
      ac_rfl)
    have ih := rwsP_r h1.right.right (fun x hx => hl x (List.mem_cons_of_mem _ hx))
    obtain ⟨A9, c9, e9, k1, k2⟩ := h1.row_sl
    injection e9 with _ _ e9
    refine ⟨fun x hx => ?_, fun x hx => ?_, fun x hx => ?_⟩
    · rcases List.mem_cons.1 hx with rfl | hx
      · exact h1.row_rdG
      · exact ih.rd x hx
    · rcases List.mem_cons.1 hx with rfl | hx
      · exact fun e he => ownE_rG h1.right e he
      · exact ih.ent x hx
    · rcases List.mem_cons.1 hx with rfl | hx
      · exact ⟨by rw [e9]; exact k1, by rw [e9]; exact k2, hl _ List.mem_cons_self⟩
      · exact ih.cap x hx
/-- What holds in the second rounds. -/
structure T2 (w : World) (b hr : Nat) (ns : List Nd) (P : SP) (L : List Ent) (f : Nat → Nat) (k : Nat) (Rr : List RwE) (RA : Option Addr) (rc : Nat) (wr : World) : Prop where
  len : Rr.length = k
  ent : ∀ j (h : j < Rr.length), entR Rr[j] = prt f j 0 L
  sat : Sat w (Row 22 1 (.slice RA k rc) k (Rr.map rsv) * (RwsP Rr * (SkipT b hr ns * (P * Emp)))) wr
theorem ents_new {L : List Ent} (hs : L.Pairwise LTE) {i : Nat} (hi : i < L.length) : (∀ x ∈ L.take i, ¬ same1 x L[i]) ∧ insE L[i] (L.take i) = L.take (i + 1) := by
  have h1 : ∀ x ∈ L.take i, LTE x L[i] := fun x hx => by
    obtain ⟨j, hj, rfl⟩ := List.mem_iff_getElem.1 hx
    rw [List.getElem_take]
    rw [List.length_take] at hj
    exact List.pairwise_iff_getElem.1 hs j i (by omega) hi (by omega)
  refine ⟨fun x hx h => same1_not h (h1 x hx), ?_⟩
  rw [insE_last h1, List.take_add_one, List.getElem?_eq_getElem hi]
  rfl
theorem prt_take {es : List En} (f : Nat → Nat) (k : Nat) {i : Nat} (hi : i < es.length) : prt f k 0 (es.take (i + 1)) = prt f k 0 (es.take i) ++ (if f i = k then [es[i]] else []) := by
  rw [List.take_add_one, List.getElem?_eq_getElem hi]
  show prt f k 0 (es.take i ++ [es[i]]) = _
  rw [prt_snoc, List.length_take, Nat.min_eq_left (by omega), Nat.zero_add]
def TpIn (w : World) (A : Option Addr) (c : Nat) (es : List En) (L : List Ent) : Prop := es.map En.ent = L ∧ es.length ≤ c ∧ c ≤ maxLen ∧ RdV w A (es.flatMap enV) ∧ EnsR w es ∧ (∀ y ∈ es, CapE y) ∧ L.Pairwise LTE ∧ L.length ≤ 60 ∧ buildE L = 0 ∧ (∀ e ∈ L, e.seq < 9223372036854775808) ∧ ∀ e ∈ L, e.key.length ≤ 128 ∧ e.value.length ≤ 300
set_option maxHeartbeats 8000000 in
theorem topTables_walk (A : Option Addr) (c : Nat) (l : List En) (B : Option Addr) (bc : Nat) (sp : List Int) (C : Option Addr) (cc : Nat) (snaps : List Int) (D : Option Addr) (dc : Nat) (keys : Rows_) (w : World) (hA : EnsIn w A c l)
    (hB : sp.length ≤ bc ∧ bc ≤ maxLen ∧ RdV w B (sp.map fun n => .int .i64 n) ∧ sp.length ≤ 17592186043904 ∧ ∀ n ∈ sp, -9223372036854775808 ≤ n ∧ n ≤ 9223372036854775807)
    (hC : snaps.length ≤ cc ∧ cc ≤ maxLen ∧ RdV w C (snaps.map fun n => .int .i64 n) ∧ snaps.length ≤ 17592186043904 ∧ ∀ n ∈ snaps, -9223372036854775808 ≤ n ∧ n ≤ 9223372036854775807)
    (hD : keys.length ≤ dc ∧ dc ≤ maxLen ∧ RdL w D keys ∧ keys.length ≤ 5864062014634 ∧ (∀ k ∈ keys, k.2.2.length ≤ 140737488351232 ∧ k.2.2.length ≤ k.2.1 ∧ k.2.1 ≤ maxLen)) :
    Calls Try.prog 3 #[.slice A l.length c, .slice B sp.length bc, .slice C snaps.length cc, .slice D keys.length dc] w (Asked true w) := by
  obtain ⟨i0, hi0, hz0, hz1, hz2⟩ := info_parts info_entry
  have Hi0 := Lib.hid hi0; have Hz0 := Lib.hid hz0; have Hz1 := Lib.hid hz1; have Hz2 := Lib.hid hz2
  clear hi0 hz0 hz1 hz2
  obtain ⟨j0, hj0, hy0, hy1, hy2⟩ := info_parts info_rowE
  have Hj0 := Lib.hid hj0; have Hy0 := Lib.hid hy0; have Hy1 := Lib.hid hy1; have Hy2 := Lib.hid hy2
  clear hj0 hy0 hy1 hy2
  have HRow : Hid (Calls Try.prog 10 #[.slice A l.length c] w fun x w' => ∃ es A c, x = .returned (.slice A es.length c) ∧ TpIn w' A c es (rowL (l.map En.ent)) ∧ Chg No w w') := (row7_any A c l w hA).mono fun x w' ⟨es, A, c, h1, h2, h3, h4, h5, h6, h7, h8⟩ => by
    have hi64 : ∀ e ∈ l.map En.ent, isI64 e.seq := fun e he => by
      obtain ⟨y, hy, rfl⟩ := List.mem_map.1 he
      exact (hA.2.2.2.2 y hy).s
    refine ⟨es, A, c, h1, ⟨h2, h3, h4, h5, h6, h7, rowL_pw _, rowL_len _, rowL_ok _ hi64, rowL_seq hi64, fun e he => ?_⟩, h8⟩
    obtain ⟨y, _, rfl⟩ := rowL_mem he
    unfold cut7
    refine ⟨by show (y.key.take 128).length ≤ 128; rw [List.length_take]; omega, ?_⟩
    show (if y.dead then [] else y.value.take 300).length ≤ 300
    split
    · exact Nat.zero_le _
    · rw [List.length_take]; omega
  have HB := Lib.hid hB; have HC := Lib.hid hC; have HD := Lib.hid hD
  have hbl : sp.length ≤ 17592186043904 := hB.2.2.2.1
  have hcl : snaps.length ≤ 17592186043904 := hC.2.2.2.1
  have hdl : keys.length ≤ 5864062014634 := hD.2.2.2.1
  have hcc : snaps.length ≤ cc := hC.1
  clear hA hB hC hD
  generalize rowL (l.map En.ent) = L at *
  go_enter Try.func3, Try.ntmps3
  go_upto_region 2 with (go_at_call 10; (with_reducible refine HRow.out.mono ?_); rintro x w1 ⟨es, EA, ec, rfl, hin, k1⟩; have HIn := Lib.hid hin; have HK1 := Lib.hid k1; clear hin k1)
  clear HRow
  have HNew : Hid (Calls Try.prog 11 #[] w1 fun x w' => ∃ b hr, x = .returned (.pointer (some ⟨b, 0, none⟩)) ∧ Sat w1 (SkipT b hr [] * Emp) w') := newT_any w1 w1 Emp (Sat.start w1)
  go_upto_region 5 with (go_at_call 11; (with_reducible refine HNew.out.mono ?_); rintro x w2 ⟨b, hr, rfl, hs2⟩; have HS2 := Lib.hid hs2; clear hs2)
  clear HNew
  have hmk : ∀ W, (Instr.makeSlice 28 (.int .i64 3) (.int .i64 3)).run Try.prog W = .ok (.slice (some ⟨W.heap.size, 0, none⟩) 3 3) (W.alloc (.cells #[.slice none 0 0, .slice none 0 0, .slice none 0 0] 22)) := fun W => by
    obtain ⟨i0, hi, hz0, hz1, hz2⟩ := info_parts info_rowE
    have hr := run_make (P := Try.prog) W 28 22 i0 _ Try.underlying28 hi hz0 .i64 .i64 3 3 (by omega) (by omega) (by rw [hz2]; omega) (by omega)
    have hc : (Value.slice none 0 0).cells = #[.slice none 0 0] := rfl
    simpa [hz1, hc, made_oneG, plainG] using hr
  have h3 := (HS2.out.allocPt 22 #[.slice none 0 0, .slice none 0 0, .slice none 0 0]).row_pt (n := 3) (cap := 3) (size := 1) (Nat.le_refl _) (by unfold maxLen; omega) (by simp)
  go_upto_region 6 with fail
  clear hmk
  revert h3
  generalize World.alloc w2 _ = w3
  generalize w2.heap.size = g
  intro h3
  have HT1 : Hid (T1 w1 b hr g 3 es sp 0 [] [(none, 0, []), (none, 0, []), (none, 0, [])] w3) := by
    refine ⟨tabG_nil 0, rfl, rfl, fun k h => ?_, ?_⟩
    · have : k = 0 ∨ k = 1 ∨ k = 2 := by simp at h; omega
      rcases this with rfl | rfl | rfl <;> rfl
    · have h4 := ((h3.row_nil 34 4).row_nil 34 4).row_nil 34 4
      refine h4.of ?_
      show Row _ 4 (.slice none 0 0) 0 [] * (Row _ 4 (.slice none 0 0) 0 [] * (Row _ 4 (.slice none 0 0) 0 [] * (Row _ 1 _ 3 [.slice none 0 0, .slice none 0 0, .slice none 0 0] * (SkipT b hr [] * Emp)))) = SkipT b hr [] * (Row _ 1 _ 3 [.slice none 0 0, .slice none 0 0, .slice none 0 0] * ((Row _ 4 (.slice none 0 0) 0 [] * (Row _ 4 (.slice none 0 0) 0 [] * (Row _ 4 (.slice none 0 0) 0 [] * Emp))) * Emp))
      rw [star_emp, star_emp, star_emp]
      ac_rfl
  clear h3
  have hel : es.length = L.length := by rw [← HIn.out.1, List.length_map]
  have hl60 : es.length ≤ 60 := by rw [hel]; exact HIn.out.2.2.2.2.2.2.2.1
  have HEl := Lib.hid hel
  clear hel
  go_upto_block 0 with fail
  go_cut [11] (fun _ wx => Hid (∃ ns Rs, T1 w1 b hr g 3 es sp es.length ns Rs wx))
  case first =>
    go_wp2_with fail
    go_loopw [11, 12] (fun iv _ wr => ∃ (i : Nat), i ≤ es.length ∧ iv = .int .i64 (i : Int) ∧ Hid (∃ ns Rs, T1 w1 b hr g 3 es sp i ns Rs wr)) (fun iv _ _ => es.length - (intOf iv).toNat)
    case atStart => exact ⟨0, by omega, rfl, _, _, HT1.out⟩
    case round =>
      obtain ⟨i, hi, rfl, HD1⟩ := hrel
      obtain ⟨ns, Rs, hT⟩ := HD1.out
      by_cases hlt : i < es.length
      · have HT := Lib.hid hT
        obtain ⟨lb, lo, eA, hq⟩ := ents_at (HIn.out.2.2.2.1.new hT.sat.chg) (by omega)
        have HEA := Lib.hid eA
        obtain ⟨y0, y1, y2, y3⟩ := hq i hlt
        have HQ4 : Hid (∀ W, Chg No w1 W → W.cell? ⟨lb, lo + i * 4, none⟩ = some (slv' es[i].key) ∧ W.cell? ⟨lb, lo + i * 4 + 1, none⟩ = some (slv' es[i].value) ∧ W.cell? ⟨lb, lo + i * 4 + 2, none⟩ = some (.int .i64 es[i].seq) ∧ W.cell? ⟨lb, lo + i * 4 + 3, none⟩ = some (.bool es[i].dead)) := fun W hW => by
          obtain ⟨b', o', e, hc⟩ := ents_at (HIn.out.2.2.2.1.new hW) (by omega)
          rw [eA] at e
          injection e with e
          injection e with e1 e2
          subst e1; subst e2
          exact hc i hlt
        have hiL : i < L.length := by rw [← HEl.out]; exact hlt
        have HXe : Hid (es[i].ent = L[i]) := by
          have h9 := congrArg (fun l => l[i]?) HIn.out.1
          simp only [List.getElem?_map] at h9
          rw [List.getElem?_eq_getElem hlt, List.getElem?_eq_getElem hiL] at h9
          injection h9
        have HXr := Lib.hid (HIn.out.2.2.2.2.1 _ (List.getElem_mem hlt))
        have HPt : Hid (∀ k, prt (spr sp) k 0 (es.take (i + 1)) = prt (spr sp) k 0 (es.take i) ++ (if spr sp i = k then [es[i]] else [])) := fun k => prt_take _ k hlt
        clear eA hq hT
        generalize es[i] = x at *
        unfold slv' at y0 y1
        have hand := and3 (i : Int)
        have him : (i : Int) % 4 ≤ 3 := by omega
        have him0 : 0 ≤ (i : Int) % 4 := by omega
        have HPu : Hid (Calls Try.prog 13 #[.pointer (some ⟨b, 0, none⟩), .agg #[.slice x.key.1 x.key.2.2.length x.key.2.1, .slice x.value.1 x.value.2.2.length x.value.2.1, .int .i64 x.seq, .bool x.dead], .int .i64 (1 + (i : Int) % 4)] wr fun y w' => ∃ ns', y = .returned (.int .i64 0) ∧ TabG ns' (i + 1) ∧ entsN ns' = L.take (i + 1) ∧ Sat w1 (SkipT b hr ns' * (Row 22 1 (.slice (some ⟨g, 0, none⟩) 3 3) 3 (Rs.map rsv) * (PartsP Rs * Emp))) w') := by
          obtain ⟨e1, e2⟩ := ents_new HIn.out.2.2.2.2.2.2.1 hiL
          have hk := HIn.out.2.2.2.2.2.2.2.2.2.2 L[i] (List.getElem_mem hiL)
          have hsq := HIn.out.2.2.2.2.2.2.2.2.2.1 L[i] (List.getElem_mem hiL)
          rw [← HXe.out] at hk hsq e1 e2
          refine (putN_any b hr ns i (1 + (i : Int) % 4) x w1 wr _ HT.out.sat HT.out.tab (by omega) ⟨HXr.out.1.new HT.out.sat.chg, HXr.out.2.new HT.out.sat.chg⟩ (by have h : x.key.2.2.length ≤ 128 := hk.1; omega) (by have h : x.value.2.2.length ≤ 300 := hk.2; omega) (by unfold topSeq; have h : x.seq < 9223372036854775808 := hsq; omega) (by rw [HT.out.ents, HIn.out.1]; exact e1)).mono ?_
          rintro y w' ⟨ns', h1, h2, h3, h4⟩
          exact ⟨ns', h1, h2, by rw [h3, HT.out.ents, HIn.out.1, e2], h4⟩
        have hii : (i : Int) < es.length := by omega
        rw [HEA.out]
        have hrem : IntKind.i64.wrap (1 + (i : Int) % 4) = 1 + (i : Int) % 4 := by rw [IntKind.wrap_i64]; omega
        go_upto_region 12 with (first
          | (go_at_call 13; (with_reducible refine HPu.out.mono ?_); rintro y w5 ⟨ns', rfl, ht, he, hs⟩; have HTb := Lib.hid ht; have HEn := Lib.hid he; have HPut := Lib.hid hs; clear ht he hs)
          | (go_at_call 12; (with_reducible refine (topnum_any _ _).mono ?_); rintro y wx ⟨rfl, rfl⟩))
        clear HPu y0 y1 y2 y3 hand him him0 hrem
        by_cases hsp : 0 < sp.length
        · obtain ⟨mm, hmm⟩ : ∃ mm, mm = i % sp.length := ⟨_, rfl⟩
          have hmml : mm < sp.length := by rw [hmm]; exact Nat.mod_lt _ hsp
          obtain ⟨sb, so, eB, hsc⟩ := (HB.out.2.2.1.new (HK1.out.tr HPut.out.chg)).get (j := mm) (by rw [List.length_map]; exact hmml)
          rw [List.getElem_map] at hsc
          obtain ⟨k, hk⟩ : ∃ k, k = spr sp i := ⟨_, rfl⟩
          have HKe := Lib.hid hk
          have hk2 := spr_at hsp (show i % sp.length < sp.length by rw [← hmm]; exact hmml)
          rw [← hk] at hk2
          have hkz : (sp[i % sp.length]'(by rw [← hmm]; exact hmml) % 4 % 3 : Int) = (k : Int) := by omega
          simp only [← hmm] at hkz
          have hbx := HB.out.2.2.2.2 _ (List.getElem_mem hmml)
          generalize sp[mm] = z at *
          have hspi : (0 : Int) < sp.length := by omega
          have hmi : (mm : Int) < sp.length := by omega
          have hr1 : ((i : Int).tmod (sp.length : Int)) = (mm : Int) := by rw [hmm]; rw [Int.tmod_eq_emod_of_nonneg (by omega)]; omega
          have ha3 := and3 z
          have hr2 : ((z % 4).tmod 3) = (k : Int) := by rw [Int.tmod_eq_emod_of_nonneg (by omega)]; exact hkz
          have hne : ¬ ((sp.length : Int) = 0) := by omega
          clear hk hk2 hmm hkz
          subst eB
          have hkR : k < Rs.length := by rw [HT.out.len, HKe.out]; exact spr_lt _ _
          have hk3 : (k : Int) < 3 := by have := spr_lt sp i; have := HKe.out; omega
          obtain ⟨PA, pc, pl, hrk⟩ : ∃ PA pc pl, Rs[k] = (PA, pc, pl) := ⟨_, _, _, rfl⟩
          have hplE : pl = prt (spr sp) k 0 (es.take i) := by have h9 := HT.out.parts k hkR; rw [hrk] at h9; exact h9
          have hpl : pl.length ≤ 60 := by
            rw [hplE]
            have h9 := (prt_sub (spr sp) k (es.take i) 0).length_le
            rw [List.length_take] at h9
            omega
          have HPl := Lib.hid hplE
          have HS6 : Hid (Sat w1 (Row 34 4 (.slice PA pl.length pc) pl.length (pl.flatMap enV) * (Row 22 1 (.slice (some ⟨g, 0, none⟩) 3 3) 3 (Rs.map rsv) * (SkipT b hr ns' * (PartsP (Rs.eraseIdx k) * Emp)))) w5) := by
            have h9 := HPut.out
            rw [partsP_at Rs k hkR, hrk] at h9
            exact h9.of (by show SkipT b hr ns' * (_ * ((Row _ 4 (.slice PA pl.length pc) pl.length (pl.flatMap enV) * _) * Emp)) = _; ac_rfl)
          have HCk : Hid (∀ W G, Sat w1 (Row 22 1 (.slice (some ⟨g, 0, none⟩) 3 3) 3 (Rs.map rsv) * G) W → W.cell? ⟨g, k, none⟩ = some (.slice PA pl.length pc)) := fun W G hW => by
            have h9 := hW.row_cell (j := k) (by rw [List.length_map]; exact hkR)
            rw [List.getElem_map, hrk] at h9
            exact h9
          have HRk := Lib.hid hrk
          clear hplE hrk
          go_upto_region 14 with fail
          refine rgnz_start (z := 13) (S := fun w' => w'.cell? ⟨g, k, none⟩ = some (.slice PA pl.length pc) ∧ w'.cell? ⟨lb, lo + i * 4, none⟩ = some (.slice x.key.1 x.key.2.2.length x.key.2.1) ∧ w'.cell? ⟨lb, lo + i * 4 + 1, none⟩ = some (.slice x.value.1 x.value.2.2.length x.value.2.1) ∧ w'.cell? ⟨lb, lo + i * 4 + 2, none⟩ = some (.int .i64 x.seq) ∧ w'.cell? ⟨lb, lo + i * 4 + 3, none⟩ = some (.bool x.dead)) (by kernel_rfl) ⟨HCk.out _ _ HS6.out.drew.up2, HQ4.out _ HS6.out.drew.chg⟩ ?_
          intro hS0
          refine rgnz_take (i := 0) (v := ?rv1) rfl (by kernel_rfl) (by kernel_rfl) (by kernel_rfl) (by kernel_rfl) (fun _ _ _ h => h) (by rfl) ?rh1 (by assumption) ?rr1
          case rh1 => (intro w hSw; (try dsimp only at hSw); go_simp; try with_reducible rfl)
          simp only [Act.put, List.setIfInBounds_toArray, List.set_cons_zero, List.set_cons_succ]
          refine rgnz_take (i := 1) (v := ?rv2) rfl (by kernel_rfl) (by kernel_rfl) (by kernel_rfl) (by kernel_rfl) (fun _ _ _ h => h) (by rfl) ?rh2 (by assumption) ?rr2
          case rh2 => (intro w hSw; (try dsimp only at hSw); go_simp; try with_reducible rfl)
          simp only [Act.put, List.setIfInBounds_toArray, List.set_cons_zero, List.set_cons_succ]
          refine rgnz_take (i := 2) (v := ?rv3) rfl (by kernel_rfl) (by kernel_rfl) (by kernel_rfl) (by kernel_rfl) (fun _ _ _ h => h) (by rfl) ?rh3 (by assumption) ?rr3
          case rh3 => (intro w hSw; (try dsimp only at hSw); go_simp; try with_reducible rfl)
          simp only [Act.put, List.setIfInBounds_toArray, List.set_cons_zero, List.set_cons_succ]
          refine rgnz_take (i := 3) (v := ?rv4) rfl (by kernel_rfl) (by kernel_rfl) (by kernel_rfl) (by kernel_rfl) (fun _ _ _ h => h) (by rfl) ?rh4 (by assumption) ?rr4
          case rh4 => (intro w hSw; (try dsimp only at hSw); go_simp; try with_reducible rfl)
          simp only [Act.put, List.setIfInBounds_toArray, List.set_cons_zero, List.set_cons_succ]
          refine rgnz_take (i := 4) (v := ?rv5) rfl (by kernel_rfl) (by kernel_rfl) (by kernel_rfl) (by kernel_rfl) (fun _ _ _ h => h) (by rfl) ?rh5 (by assumption) ?rr5
          case rh5 => (intro w hSw; (try dsimp only at hSw); go_simp; try with_reducible rfl)
          simp only [Act.put, List.setIfInBounds_toArray, List.set_cons_zero, List.set_cons_succ]
          refine rgnz_take (i := 5) (v := ?rv6) rfl (by kernel_rfl) (by kernel_rfl) (by kernel_rfl) (by kernel_rfl) (fun _ _ _ h => h) (by rfl) ?rh6 (by assumption) ?rr6
          case rh6 => (intro w hSw; (try dsimp only at hSw); go_simp; try with_reducible rfl)
          simp only [Act.put, List.setIfInBounds_toArray, List.set_cons_zero, List.set_cons_succ]
          refine rgnz_take (i := 6) (v := ?rv7) rfl (by kernel_rfl) (by kernel_rfl) (by kernel_rfl) (by kernel_rfl) (fun _ _ _ h => h) (by rfl) ?rh7 (by assumption) ?rr7
          case rh7 => (intro w hSw; (try dsimp only at hSw); go_simp; try with_reducible rfl)
          simp only [Act.put, List.setIfInBounds_toArray, List.set_cons_zero, List.set_cons_succ]
          refine rgnz_take (i := 7) (v := ?rv8) rfl (by kernel_rfl) (by kernel_rfl) (by kernel_rfl) (by kernel_rfl) (fun _ _ _ h => h) (by rfl) ?rh8 (by assumption) ?rr8
          case rh8 => (intro w hSw; (try dsimp only at hSw); go_simp; try with_reducible rfl)
          simp only [Act.put, List.setIfInBounds_toArray, List.set_cons_zero, List.set_cons_succ]
          refine rgnz_take (i := 8) (v := ?rv9) rfl (by kernel_rfl) (by kernel_rfl) (by kernel_rfl) (by kernel_rfl) (fun _ _ _ h => h) (by rfl) ?rh9 (by assumption) ?rr9
          case rh9 => (intro w hSw; (try dsimp only at hSw); go_simp; try with_reducible rfl)
          simp only [Act.put, List.setIfInBounds_toArray, List.set_cons_zero, List.set_cons_succ]
          refine rgnz_take (i := 9) (v := ?rv10) rfl (by kernel_rfl) (by kernel_rfl) (by kernel_rfl) (by kernel_rfl) (fun _ _ _ h => h) (by rfl) ?rh10 (by assumption) ?rr10
          case rh10 => (intro w hSw; (try dsimp only at hSw); go_simp; try with_reducible rfl)
          simp only [Act.put, List.setIfInBounds_toArray, List.set_cons_zero, List.set_cons_succ]
          refine rgnz_call (i := 10) rfl (by kernel_rfl) (fun K hK => ?_)
          go_simp
          have hs := HS6.out.drew.alloc' (.cells #[.slice x.key.1 x.key.2.2.length x.key.2.1, .slice x.value.1 x.value.2.2.length x.value.2.1, .int .i64 x.seq, .bool x.dead] 34)
          refine hK.out _ _ ⟨HCk.out _ _ hs.up2, HQ4.out _ hs.chg⟩ (fun hS0 => ?_)
          clear hK K
          refine rgnz_call (i := 11) rfl (by kernel_rfl) (fun K hK => ?_)
          refine step_appS rfl (.tmp 71) (.tmp 76) 22 rfl 34 i0 _ 4 64 Try.underlying22 Hi0.out Hz0.out Hz1.out Hz2.out rfl (by decide) (.slice PA pl.length pc) pl.length (pl.flatMap enV) rfl w1 _ (by exact HS6.out.drew.alloc' _) (some ⟨w5.heap.size, 0, none⟩) 1 1 [.slice x.key.1 x.key.2.2.length x.key.2.1, .slice x.value.1 x.value.2.2.length x.value.2.1, .int .i64 x.seq, .bool x.dead] rfl (lit_rdv _ _ _) rfl (by intro u hu; simp at hu; rcases hu with rfl | rfl | rfl | rfl <;> rfl) (by unfold maxLen; omega) (by omega) ?_; intro A9 c9 w9 hs; have HS9 := Lib.hid hs; have y2 : w9.frozen? ⟨g, k, none⟩ = false := hs.up2.row_free _; have y1 := HCk.out _ _ hs.up2; clear hs
          refine hK.out _ _ ⟨HCk.out _ _ HS9.out.up2, HQ4.out _ HS9.out.chg⟩ (fun hS0 => ?_)
          clear hK K
          try simp only [Act.put, List.setIfInBounds_toArray, List.set_cons_zero, List.set_cons_succ]
          refine rgnz_take (i := 12) (v := ?rv13) rfl (by kernel_rfl) (by kernel_rfl) (by kernel_rfl) (by kernel_rfl) (fun _ _ _ h => h) (by rfl) ?rh13 (by assumption) ?rr13
          case rh13 => (intro w hSw; (try dsimp only at hSw); go_simp; try with_reducible rfl)
          simp only [Act.put, List.setIfInBounds_toArray, List.set_cons_zero, List.set_cons_succ]
          refine rgnz_last rfl (by kernel_rfl) (by kernel_rfl) (fun K hK => ?_)
          go_simp
          refine hK.out _ _ ?_
          clear hK K
          have hs10 := HS9.out.up2.row_setj (j := k) (.slice A9 (pl.length + 1) c9)
          have e10 : (Rs.map rsv).set k (.slice A9 (pl.length + 1) c9) = (Rs.set k (A9, c9, pl ++ [x])).map rsv := by
            rw [List.map_set]
            unfold rsv
            dsimp only
            rw [List.length_append]
            rfl
          rw [e10] at hs10
          have HT2 : Hid (T1 w1 b hr g 3 es sp (i + 1) ns' (Rs.set k (A9, c9, pl ++ [x])) (w9.setCell ⟨g, k, none⟩ (.slice A9 (pl.length + 1) c9))) := by
            refine ⟨HTb.out, by rw [HEn.out, HIn.out.1], by rw [List.length_set]; exact HT.out.len, fun q hq => ?_, ?_⟩
            · have hq2 : q < Rs.length := by rw [List.length_set] at hq; exact hq
              rw [HPt.out, List.getElem_set]
              by_cases e : k = q
              · subst e
                rw [if_pos rfl, if_pos HKe.out.symm, ← HPl.out]
              · rw [if_neg e, if_neg (by rw [← HKe.out]; exact e), List.append_nil]
                exact HT.out.parts q hq2
            · refine hs10.of ?_
              rw [partsP_set Rs k hkR]
              show _ = SkipT b hr ns' * (_ * ((Row _ 4 (.slice A9 (pl ++ [x]).length c9) (pl ++ [x]).length ((pl ++ [x]).flatMap enV) * _) * Emp))
              rw [List.length_append, List.flatMap_append]
              show _ = SkipT b hr ns' * (_ * ((Row _ 4 (.slice A9 (pl.length + 1) c9) (pl.length + 1) (pl.flatMap enV ++ (enV x ++ [])) * _) * Emp))
              rw [List.append_nil]
              show Row 22 1 _ 3 _ * (Row 34 4 _ _ (pl.flatMap enV ++ enV x) * _) = _
              ac_rfl
          clear hs10 e10 y1 y2
          go_wp2_with fail
          go_roundw
          · exact ⟨i + 1, by omega, by go_num, _, _, HT2.out⟩
          · simp [intOf]; omega
        · obtain ⟨k, hk⟩ : ∃ k, k = spr sp i := ⟨_, rfl⟩
          have HKe := Lib.hid hk
          have hk0 : k = 0 := by rw [hk]; exact spr_none hsp
          have hspi : ¬ (0 : Int) < sp.length := by omega
          subst hk0
          clear hk
          have hkR : 0 < Rs.length := by rw [HT.out.len, HKe.out]; exact spr_lt _ _
          have hk3 : ((0 : Nat) : Int) < 3 := by have := spr_lt sp i; have := HKe.out; omega
          obtain ⟨PA, pc, pl, hrk⟩ : ∃ PA pc pl, Rs[0] = (PA, pc, pl) := ⟨_, _, _, rfl⟩
          have hplE : pl = prt (spr sp) 0 0 (es.take i) := by have h9 := HT.out.parts 0 hkR; rw [hrk] at h9; exact h9
          have hpl : pl.length ≤ 60 := by
            rw [hplE]
            have h9 := (prt_sub (spr sp) 0 (es.take i) 0).length_le
            rw [List.length_take] at h9
            omega
          have HPl := Lib.hid hplE
          have HS6 : Hid (Sat w1 (Row 34 4 (.slice PA pl.length pc) pl.length (pl.flatMap enV) * (Row 22 1 (.slice (some ⟨g, 0, none⟩) 3 3) 3 (Rs.map rsv) * (SkipT b hr ns' * (PartsP (Rs.eraseIdx 0) * Emp)))) w5) := by
            have h9 := HPut.out
            rw [partsP_at Rs 0 hkR, hrk] at h9
            exact h9.of (by show SkipT b hr ns' * (_ * ((Row _ 4 (.slice PA pl.length pc) pl.length (pl.flatMap enV) * _) * Emp)) = _; ac_rfl)
          have HCk : Hid (∀ W G, Sat w1 (Row 22 1 (.slice (some ⟨g, 0, none⟩) 3 3) 3 (Rs.map rsv) * G) W → W.cell? ⟨g, 0, none⟩ = some (.slice PA pl.length pc)) := fun W G hW => by
            have h9 := hW.row_cell (j := 0) (by rw [List.length_map]; exact hkR)
            rw [List.getElem_map, hrk] at h9
            exact h9
          have HRk := Lib.hid hrk
          clear hplE hrk
          go_upto_region 14 with fail
          refine rgnz_start (z := 13) (S := fun w' => w'.cell? ⟨g, 0, none⟩ = some (.slice PA pl.length pc) ∧ w'.cell? ⟨lb, lo + i * 4, none⟩ = some (.slice x.key.1 x.key.2.2.length x.key.2.1) ∧ w'.cell? ⟨lb, lo + i * 4 + 1, none⟩ = some (.slice x.value.1 x.value.2.2.length x.value.2.1) ∧ w'.cell? ⟨lb, lo + i * 4 + 2, none⟩ = some (.int .i64 x.seq) ∧ w'.cell? ⟨lb, lo + i * 4 + 3, none⟩ = some (.bool x.dead)) (by kernel_rfl) ⟨HCk.out _ _ HS6.out.drew.up2, HQ4.out _ HS6.out.drew.chg⟩ ?_
          intro hS0
          refine rgnz_take (i := 0) (v := ?rv18) rfl (by kernel_rfl) (by kernel_rfl) (by kernel_rfl) (by kernel_rfl) (fun _ _ _ h => h) (by rfl) ?rh18 (by assumption) ?rr18
          case rh18 => (intro w hSw; (try dsimp only at hSw); go_simp; try with_reducible rfl)
          simp only [Act.put, List.setIfInBounds_toArray, List.set_cons_zero, List.set_cons_succ]
          refine rgnz_take (i := 1) (v := ?rv19) rfl (by kernel_rfl) (by kernel_rfl) (by kernel_rfl) (by kernel_rfl) (fun _ _ _ h => h) (by rfl) ?rh19 (by assumption) ?rr19
          case rh19 => (intro w hSw; (try dsimp only at hSw); go_simp; try with_reducible rfl)
          simp only [Act.put, List.setIfInBounds_toArray, List.set_cons_zero, List.set_cons_succ]
          refine rgnz_take (i := 2) (v := ?rv20) rfl (by kernel_rfl) (by kernel_rfl) (by kernel_rfl) (by kernel_rfl) (fun _ _ _ h => h) (by rfl) ?rh20 (by assumption) ?rr20
          case rh20 => (intro w hSw; (try dsimp only at hSw); go_simp; try with_reducible rfl)
          simp only [Act.put, List.setIfInBounds_toArray, List.set_cons_zero, List.set_cons_succ]
          refine rgnz_take (i := 3) (v := ?rv21) rfl (by kernel_rfl) (by kernel_rfl) (by kernel_rfl) (by kernel_rfl) (fun _ _ _ h => h) (by rfl) ?rh21 (by assumption) ?rr21
          case rh21 => (intro w hSw; (try dsimp only at hSw); go_simp; try with_reducible rfl)
          simp only [Act.put, List.setIfInBounds_toArray, List.set_cons_zero, List.set_cons_succ]
          refine rgnz_take (i := 4) (v := ?rv22) rfl (by kernel_rfl) (by kernel_rfl) (by kernel_rfl) (by kernel_rfl) (fun _ _ _ h => h) (by rfl) ?rh22 (by assumption) ?rr22
          case rh22 => (intro w hSw; (try dsimp only at hSw); go_simp; try with_reducible rfl)
          simp only [Act.put, List.setIfInBounds_toArray, List.set_cons_zero, List.set_cons_succ]
          refine rgnz_take (i := 5) (v := ?rv23) rfl (by kernel_rfl) (by kernel_rfl) (by kernel_rfl) (by kernel_rfl) (fun _ _ _ h => h) (by rfl) ?rh23 (by assumption) ?rr23
          case rh23 => (intro w hSw; (try dsimp only at hSw); go_simp; try with_reducible rfl)
          simp only [Act.put, List.setIfInBounds_toArray, List.set_cons_zero, List.set_cons_succ]
          refine rgnz_take (i := 6) (v := ?rv24) rfl (by kernel_rfl) (by kernel_rfl) (by kernel_rfl) (by kernel_rfl) (fun _ _ _ h => h) (by rfl) ?rh24 (by assumption) ?rr24
          case rh24 => (intro w hSw; (try dsimp only at hSw); go_simp; try with_reducible rfl)
          simp only [Act.put, List.setIfInBounds_toArray, List.set_cons_zero, List.set_cons_succ]
          refine rgnz_take (i := 7) (v := ?rv25) rfl (by kernel_rfl) (by kernel_rfl) (by kernel_rfl) (by kernel_rfl) (fun _ _ _ h => h) (by rfl) ?rh25 (by assumption) ?rr25
          case rh25 => (intro w hSw; (try dsimp only at hSw); go_simp; try with_reducible rfl)
          simp only [Act.put, List.setIfInBounds_toArray, List.set_cons_zero, List.set_cons_succ]
          refine rgnz_take (i := 8) (v := ?rv26) rfl (by kernel_rfl) (by kernel_rfl) (by kernel_rfl) (by kernel_rfl) (fun _ _ _ h => h) (by rfl) ?rh26 (by assumption) ?rr26
          case rh26 => (intro w hSw; (try dsimp only at hSw); go_simp; try with_reducible rfl)
          simp only [Act.put, List.setIfInBounds_toArray, List.set_cons_zero, List.set_cons_succ]
          refine rgnz_take (i := 9) (v := ?rv27) rfl (by kernel_rfl) (by kernel_rfl) (by kernel_rfl) (by kernel_rfl) (fun _ _ _ h => h) (by rfl) ?rh27 (by assumption) ?rr27
          case rh27 => (intro w hSw; (try dsimp only at hSw); go_simp; try with_reducible rfl)
          simp only [Act.put, List.setIfInBounds_toArray, List.set_cons_zero, List.set_cons_succ]
          refine rgnz_call (i := 10) rfl (by kernel_rfl) (fun K hK => ?_)
          go_simp
          have hs := HS6.out.drew.alloc' (.cells #[.slice x.key.1 x.key.2.2.length x.key.2.1, .slice x.value.1 x.value.2.2.length x.value.2.1, .int .i64 x.seq, .bool x.dead] 34)
          refine hK.out _ _ ⟨HCk.out _ _ hs.up2, HQ4.out _ hs.chg⟩ (fun hS0 => ?_)
          clear hK K
          refine rgnz_call (i := 11) rfl (by kernel_rfl) (fun K hK => ?_)
          refine step_appS rfl (.tmp 71) (.tmp 76) 22 rfl 34 i0 _ 4 64 Try.underlying22 Hi0.out Hz0.out Hz1.out Hz2.out rfl (by decide) (.slice PA pl.length pc) pl.length (pl.flatMap enV) rfl w1 _ (by exact HS6.out.drew.alloc' _) (some ⟨w5.heap.size, 0, none⟩) 1 1 [.slice x.key.1 x.key.2.2.length x.key.2.1, .slice x.value.1 x.value.2.2.length x.value.2.1, .int .i64 x.seq, .bool x.dead] rfl (lit_rdv _ _ _) rfl (by intro u hu; simp at hu; rcases hu with rfl | rfl | rfl | rfl <;> rfl) (by unfold maxLen; omega) (by omega) ?_; intro A9 c9 w9 hs; have HS9 := Lib.hid hs; have y2 : w9.frozen? ⟨g, 0, none⟩ = false := hs.up2.row_free _; have y1 := HCk.out _ _ hs.up2; clear hs
          refine hK.out _ _ ⟨HCk.out _ _ HS9.out.up2, HQ4.out _ HS9.out.chg⟩ (fun hS0 => ?_)
          clear hK K
          try simp only [Act.put, List.setIfInBounds_toArray, List.set_cons_zero, List.set_cons_succ]
          refine rgnz_take (i := 12) (v := ?rv30) rfl (by kernel_rfl) (by kernel_rfl) (by kernel_rfl) (by kernel_rfl) (fun _ _ _ h => h) (by rfl) ?rh30 (by assumption) ?rr30
          case rh30 => (intro w hSw; (try dsimp only at hSw); go_simp; try with_reducible rfl)
          simp only [Act.put, List.setIfInBounds_toArray, List.set_cons_zero, List.set_cons_succ]
          refine rgnz_last rfl (by kernel_rfl) (by kernel_rfl) (fun K hK => ?_)
          go_simp
          refine hK.out _ _ ?_
          clear hK K
          have hs10 := HS9.out.up2.row_setj (j := 0) (.slice A9 (pl.length + 1) c9)
          have e10 : (Rs.map rsv).set 0 (.slice A9 (pl.length + 1) c9) = (Rs.set 0 (A9, c9, pl ++ [x])).map rsv := by
            rw [List.map_set]
            unfold rsv
            dsimp only
            rw [List.length_append]
            rfl
          rw [e10] at hs10
          have HT2 : Hid (T1 w1 b hr g 3 es sp (i + 1) ns' (Rs.set 0 (A9, c9, pl ++ [x])) (w9.setCell ⟨g, 0, none⟩ (.slice A9 (pl.length + 1) c9))) := by
            refine ⟨HTb.out, by rw [HEn.out, HIn.out.1], by rw [List.length_set]; exact HT.out.len, fun q hq => ?_, ?_⟩
            · have hq2 : q < Rs.length := by rw [List.length_set] at hq; exact hq
              rw [HPt.out, List.getElem_set]
              by_cases e : 0 = q
              · subst e
                rw [if_pos rfl, if_pos HKe.out.symm, ← HPl.out]
              · rw [if_neg e, if_neg (by rw [← HKe.out]; exact e), List.append_nil]
                exact HT.out.parts q hq2
            · refine hs10.of ?_
              rw [partsP_set Rs 0 hkR]
              show _ = SkipT b hr ns' * (_ * ((Row _ 4 (.slice A9 (pl ++ [x]).length c9) (pl ++ [x]).length ((pl ++ [x]).flatMap enV) * _) * Emp))
              rw [List.length_append, List.flatMap_append]
              show _ = SkipT b hr ns' * (_ * ((Row _ 4 (.slice A9 (pl.length + 1) c9) (pl.length + 1) (pl.flatMap enV ++ (enV x ++ [])) * _) * Emp))
              rw [List.append_nil]
              show Row 22 1 _ 3 _ * (Row 34 4 _ _ (pl.flatMap enV ++ enV x) * _) = _
              ac_rfl
          clear hs10 e10 y1 y2
          go_wp2_with fail
          go_roundw
          · exact ⟨i + 1, by omega, by go_num, _, _, HT2.out⟩
          · simp [intOf]; omega
      · have hie : i = es.length := by omega
        subst hie
        have HT := Lib.hid hT
        clear hT HD1
        go_wp2_with fail
        go_meet
        exact ⟨_, _, HT.out⟩
  case rest =>
    obtain ⟨ns, Rs, hT⟩ := hcut.out
    have HT := Lib.hid hT
    have HP : Hid (∀ P, P = Row 22 1 (.slice (some ⟨g, 0, none⟩) 3 3) 3 (Rs.map rsv) * PartsP Rs → Sat w1 (SkipT b hr ns * (P * Emp)) wc) := fun P hP => by
      rw [hP]
      exact hT.sat.of (by ac_rfl)
    obtain ⟨P, hP⟩ : ∃ P, P = Row 22 1 (.slice (some ⟨g, 0, none⟩) 3 3) 3 (Rs.map rsv) * PartsP Rs := ⟨_, rfl⟩
    have HS0 := Lib.hid (HP.out P hP)
    have HPe := Lib.hid hP
    have HTab : Hid (TabG ns es.length) := hT.tab
    have HEn : Hid (entsN ns = L) := by have h9 := hT.ents; rw [List.take_of_length_le (by rw [List.length_map]; exact Nat.le_refl _), HIn.out.1] at h9; exact h9
    have HRl : Hid (Rs.length = 3) := hT.len
    have HRp : Hid (∀ k (h : k < Rs.length), Rs[k].2.2 = prt (spr sp) k 0 es) := fun k h => by have h9 := hT.parts k h; rw [List.take_length] at h9; exact h9
    clear hT HT HT1 hP HP hcut
    have HT20 : Hid (T2 w1 b hr ns P L (spr sp) 0 [] none 0 wc) := ⟨rfl, fun j h => absurd h (by simp), (HS0.out.row_nil 22 1).of (by show _ = Row _ 1 (.slice none 0 0) 0 [] * (Emp * (SkipT b hr ns * (P * Emp))); rw [emp_star])⟩
    have HG : Hid (∀ k W (Rr : List RwE) RA rc, k < 3 → T2 w1 b hr ns P L (spr sp) k Rr RA rc W → ∃ PA pc n, n = (prt (spr sp) k 0 L).length ∧ W.cell? ⟨g, k, none⟩ = some (.slice PA n pc) ∧ Calls Try.prog 14 #[.slice PA n pc] W (Laid7 (prt (spr sp) k 0 L) W)) := fun k W Rr RA rc hk hW => by
      have hkR : k < Rs.length := by rw [HRl.out]; exact hk
      have hs := hW.sat
      rw [HPe.out] at hs
      have h1 : Sat w1 (Row 22 1 (.slice (some ⟨g, 0, none⟩) 3 3) 3 (Rs.map rsv) * (Row 34 4 (.slice Rs[k].1 Rs[k].2.2.length Rs[k].2.1) Rs[k].2.2.length (Rs[k].2.2.flatMap enV) * (PartsP (Rs.eraseIdx k) * (Row 22 1 (.slice RA k rc) k (Rr.map rsv) * (RwsP Rr * (SkipT b hr ns * Emp)))))) W := hs.of (by
        rw [partsP_at Rs k hkR]
        show Row _ 1 _ _ _ * (RwsP Rr * (SkipT b hr ns * ((Row _ 1 _ 3 _ * (Row _ 4 (.slice Rs[k].1 Rs[k].2.2.length Rs[k].2.1) _ _ * _)) * Emp))) = _
        ac_rfl)
      have h2 := h1.row_cell (j := k) (by rw [List.length_map]; exact hkR)
      rw [List.getElem_map] at h2
      obtain ⟨A9, c9, e9, k1, k2⟩ := h1.up2.row_sl
      injection e9 with _ _ e9
      rw [← e9] at k1 k2
      have hm : Rs[k].2.2.map En.ent = prt (spr sp) k 0 L := by rw [HRp.out k hkR, prt_map, HIn.out.1]
      have hsub : ∀ e ∈ Rs[k].2.2, e ∈ es := fun e he => by rw [HRp.out k hkR] at he; exact (prt_sub _ _ _ _).mem he
      have hsubL := prt_sub (spr sp) k L 0
      refine ⟨Rs[k].1, Rs[k].2.1, Rs[k].2.2.length, by rw [← hm, List.length_map], h2, ?_⟩
      exact bld7 _ _ _ _ hm (buildE_sub hsubL HIn.out.2.2.2.2.2.2.2.2.1) (fun e he => HIn.out.2.2.2.2.2.2.2.2.2.1 e (hsubL.mem he)) W h1.up2.row_rdG (fun e he => ⟨(HIn.out.2.2.2.2.1 e (hsub e he)).1.new h1.chg, (HIn.out.2.2.2.2.1 e (hsub e he)).2.new h1.chg⟩) k1 k2 (fun y hy => HIn.out.2.2.2.2.2.1 y (hsub y hy))
    go_upto_block 2 with fail
    go_cut [13] (fun rv wx => ∃ (Rr : List RwE) (RA : Option Addr) (rc : Nat), rv = .slice RA 3 rc ∧ Hid (T2 w1 b hr ns P L (spr sp) 3 Rr RA rc wx))
    case first =>
      go_wp2_with fail
      go_loopw [13, 14] (fun rv kv wr => ∃ (k : Nat) (Rr : List RwE) (RA : Option Addr) (rc : Nat), k ≤ 3 ∧ kv = .int .i64 (k : Int) ∧ rv = .slice RA k rc ∧ Hid (T2 w1 b hr ns P L (spr sp) k Rr RA rc wr)) (fun _ kv _ => 3 - (intOf kv).toNat)
      case atStart => exact ⟨0, [], none, 0, by omega, rfl, rfl, HT20.out⟩
      case round =>
        obtain ⟨k, Rr, RA, rc, hk, rfl, rfl, HD2⟩ := hrel
        by_cases hlt : k < 3
        · obtain ⟨PA, pc, n, hn, hcell, hbld⟩ := HG.out k wr Rr RA rc hlt HD2.out
          have HB7 := Lib.hid hbld
          have hki : (k : Int) < 3 := by omega
          have hsubL := prt_sub (spr sp) k L 0
          have hkl : (prt (spr sp) k 0 L).length ≤ 60 := by have := hsubL.length_le; have := HIn.out.2.2.2.2.2.2.2.1; omega
          have HBe : Hid (buildE (prt (spr sp) k 0 L) = 0) := buildE_sub hsubL HIn.out.2.2.2.2.2.2.2.2.1
          have HSq : Hid (∀ e ∈ prt (spr sp) k 0 L, e.seq < 9223372036854775808) := fun e he => HIn.out.2.2.2.2.2.2.2.2.2.1 e (hsubL.mem he)
          clear hbld hn hsubL
          generalize hLk : prt (spr sp) k 0 L = Lk at *
          have HLk := Lib.hid hLk
          obtain ⟨bn, hbn⟩ : ∃ bn, bn = (buildB Lk).length := ⟨_, rfl⟩
          have HBn := Lib.hid hbn
          have HB8 : Hid (Calls Try.prog 14 #[.slice PA n pc] wr fun x w' => ∃ B d, x = .returned (.tuple #[.slice B bn d, .int .i64 0]) ∧ bn ≤ d ∧ d ≤ maxLen ∧ Rd w' B (buildB Lk) ∧ Chg No wr w') := HB7.out.mono fun x w' ⟨B, d, h1, h2, h3, h4⟩ => ⟨B, d, by rw [h1, hbn], by rw [hbn]; exact h2, h3, h4.row_rdG, h4.chg⟩
          have HO8 : Hid (∀ B d W, Rd W B (buildB Lk) → bn ≤ d → d ≤ maxLen → Calls Try.prog 15 #[.slice B bn d] W (Open7 Lk W)) := fun B d W h1 h2 h3 => opn7 B bn d Lk HBe.out HSq.out W hbn h1 h2 h3
          have HR8 : Hid (∀ W T es', TabR W T es' → es'.map En.ent = Lk → Calls Try.prog 16 #[.pointer (some ⟨T, 0, none⟩), .slice none 0 0, .slice none 0 0] W (ToldE W Lk)) := fun W T es' h1 h2 => by
            have h9 := trange_any (none, 0, []) (none, 0, []) T es' W (Rd.nil _ _) (Rd.nil _ _) h1
            rw [h2, rng_all (fun e he => by have := HSq.out e he; omega)] at h9
            exact h9
          clear hLk hbn HB7
          go_upto_region 20 with (go_at_call 14; (with_reducible refine HB8.out.mono ?_); rintro x w5 ⟨B2, d2, rfl, q1, q2, q3, q4⟩; have H1 := Lib.hid q1; have H2 := Lib.hid q2; have H3 := Lib.hid q3; have HS5 := Lib.hid (HD2.out.sat.new q4); clear q1 q2 q3 q4)
          go_upto_region 21 with (go_at_call 15; (with_reducible refine (HO8.out B2 d2 w5 H3.out H1.out H2.out).mono ?_); rintro x w6 ⟨T, es', rfl, q1, q2, q3⟩; have HTl := Lib.hid q1; have HTr := Lib.hid q2; have HS6 := Lib.hid (HS5.out.new q3); clear q1 q2 q3)
          go_wp2_with (first
            | (go_at_call 12; (with_reducible refine (topnum_any _ _).mono ?_); rintro y wx ⟨rfl, rfl⟩)
            | (go_at_call 16; (with_reducible refine (HR8.out w6 T es' HTr.out HTl.out).mono ?_); rintro x w7 ⟨es2, A2, c2, rfl, q1, q2⟩; have HL2 := Lib.hid q1; have HS7 := Lib.hid (HS6.out.join q2 (owned_star (owned_row _ _ _ _ _) (owned_ownEG es2))); clear q1 q2)
            | (at_builtin; refine wpList_appS rfl (.tmp 108) (.tmp 111) 28 rfl 22 j0 _ 1 24 Try.underlying28 Hj0.out Hy0.out Hy1.out Hy2.out rfl (by decide) (.slice RA k rc) k (Rr.map rsv) rfl w1 _ (by exact (HS7.out.alloc' _).up2) (some ⟨w7.heap.size, 0, none⟩) 1 1 [rsv (A2, c2, es2)] rfl (lit_rdv _ _ _) rfl (rsv_ones [(A2, c2, es2)]) (by unfold maxLen; omega) (by omega) ?_; intro A3 c3 w8 hs8; have HS8 := Lib.hid hs8; clear hs8))
          go_roundw
          · refine ⟨k + 1, Rr ++ [(A2, c2, es2)], A3, c3, by omega, by go_num, rfl, ?_, fun j hj => ?_, ?_⟩
            · rw [List.length_append, HD2.out.len]; rfl
            · rw [List.length_append] at hj
              rcases Nat.lt_or_ge j Rr.length with h | h
              · rw [List.getElem_append_left h]; exact HD2.out.ent j h
              · have : j = k := by have := HD2.out.len; simp at hj; omega
                subst this
                have hl := HD2.out.len
                simp only [← hl]
                rw [List.getElem_append_right (Nat.le_refl _)]
                simp only [Nat.sub_self, List.getElem_cons_zero, hl]
                rw [HLk.out]
                exact HL2.out
            · rw [rwsP_snoc, List.map_append]
              refine HS8.out.of ?_
              show _ = Row _ 1 _ _ (Rr.map rsv ++ [rsv (A2, c2, es2)]) * (((Row _ 4 (.slice A2 es2.length c2) es2.length (es2.flatMap enV) * OwnE es2) * RwsP Rr) * _)
              ac_rfl
          · simp [intOf]; omega
        · have hke : k = 3 := by omega
          subst hke
          go_wp2_with fail
          go_meet
          exact ⟨Rr, RA, rc, rfl, HD2.out⟩
    case rest =>
      obtain ⟨Rr, RA, rc, rfl, HD2⟩ := hcut
      clear HT20 HG HS0
      obtain ⟨sn, hsn⟩ : ∃ sn, sn = snaps.take 6 := ⟨_, rfl⟩
      have hsl : sn.length ≤ 6 := by rw [hsn, List.length_take]; omega
      have HSr : Hid (RdV w C (sn.map fun n => .int .i64 n)) := by
        have h9 := HC.out.2.2.1.take 6
        rw [hsn, List.map_take]
        exact h9
      refine ‹∀ (a : Act) (w : World), Code.wp _ _ _ a w → _› _ _ ?_
      apply wp_seq_k
      intro _ _
      go_cut [2] (fun sv wx => sv = .slice C sn.length cc ∧ Hid (T2 w1 b hr ns P L (spr sp) 3 Rr RA rc wx))
      case first =>
        by_cases h6 : 6 < snaps.length
        · have h6i : (6 : Int) < snaps.length := by omega
          have HS6 : Hid (sn.length = 6) := by unfold Hid; rw [hsn, List.length_take]; omega
          have h6c : (6 : Int) ≤ cc := by omega
          clear hsn
          go_wp2_with fail
          go_meet
          exact ⟨by rw [HS6.out], HD2.out⟩
        · have h6i : ¬ (6 : Int) < snaps.length := by omega
          have HS6 : Hid (sn.length = snaps.length) := by unfold Hid; rw [hsn, List.length_take]; omega
          clear hsn
          go_wp2_with fail
          go_meet
          exact ⟨by rw [HS6.out], HD2.out⟩
      case rest =>
        obtain ⟨rfl, HD3⟩ := hcut
        clear hsn HD2
        have HMg : Hid (Calls Try.prog 17 #[.slice RA 3 rc] wc (ThinT wc L)) := by
          have hs := HD3.out.sat
          have hl := HD3.out.len
          have hRr : ∀ r ∈ Rr, r.2.2.length ≤ 1000000 := fun r hr => by
            obtain ⟨j, hj, rfl⟩ := List.mem_iff_getElem.1 hr
            have h9 := congrArg List.length (HD3.out.ent j hj)
            have h8 := (prt_sub (spr sp) j L 0).length_le
            have h7 := HIn.out.2.2.2.2.2.2.2.1
            unfold entR at h9
            rw [List.length_map] at h9
            omega
          have h9 := merge_any RA rc Rr (spr sp) L wc hs.row_rdG (rwsP_r hs.up2 hRr) (by
            apply List.ext_getElem?
            intro j
            rw [List.getElem?_map]
            rcases Nat.lt_or_ge j Rr.length with h | h
            · rw [List.getElem?_eq_getElem h, parts_at h]
              exact congrArg some (HD3.out.ent j h)
            · rw [List.getElem?_eq_none h, List.getElem?_eq_none (by rw [parts_len]; exact h)]
              rfl) (fun i _ => by rw [hl]; exact spr_lt sp i) HIn.out.2.2.2.2.2.2.1 (by omega) (by omega) (by have := HIn.out.2.2.2.2.2.2.2.1; omega) (fun e he => by have := HIn.out.2.2.2.2.2.2.2.2.2.2 e he; omega)
          rw [hl] at h9
          exact h9
        have HTh : Hid (∀ W (ts : List En) (TA : Option Addr) (tc : Nat) (F : SP), ts.map En.ent = L → Sat w1 (Row 34 4 (.slice TA ts.length tc) ts.length (ts.flatMap enV) * (OwnE ts * F)) W → Calls Try.prog 18 #[.slice TA ts.length tc, .bool false, .slice C sn.length cc] W (ThinT W (thinE false sn L))) := fun W ts TA tc F hL hW => by
          have hl : ts.length ≤ 60 := by rw [← HIn.out.1] at hL; have h9 := congrArg List.length hL; rw [List.length_map, List.length_map] at h9; omega
          obtain ⟨A9, c9, e9, k1, k2⟩ := hW.row_sl
          injection e9 with _ _ e9
          rw [← e9] at k1 k2
          have h9 := thin_any false TA tc ts C cc sn W hW.row_rdG (fun e he => ownE_rG hW.right e he) k1 k2 (by omega) (fun e he => by
            have h8 := HIn.out.2.2.2.2.2.2.2.2.2.2 e.ent (by rw [← hL]; exact List.mem_map_of_mem he)
            have h7 : e.key.2.2.length ≤ 128 := h8.1
            have h6 : e.value.2.2.length ≤ 300 := h8.2
            omega) (HSr.out.new (HK1.out.tr hW.chg)) (by omega) (by rw [hL]; exact HIn.out.2.2.2.2.2.2.1)
          rw [hL] at h9
          exact h9
        have HRg : Hid (∀ W (F : SP), Sat w1 (SkipT b hr ns * F) W → Calls Try.prog 20 #[.pointer (some ⟨b, 0, none⟩), .slice none 0 0, .slice none 0 0] W (AllE W L)) := fun W F hW => by
          have h9 := allG_any b hr ns es.length w1 W F hW HTab.out (by omega)
          rw [show (absL ns).map (·.1) = L from HEn.out] at h9
          exact h9
        have HAl : Hid (∀ W (ts fs : List En) (TA FA : Option Addr) (tc fc : Nat) (F : SP), ts.map En.ent = L → fs.map En.ent = L → Sat w1 (Row 34 4 (.slice TA ts.length tc) ts.length (ts.flatMap enV) * (OwnE ts * F)) W → RdV W FA (fs.flatMap enV) → EnsR W fs → fs.length ≤ fc → fc ≤ maxLen → Calls Try.prog 19 #[.slice TA ts.length tc, .slice FA fs.length fc] W fun e w' => e = .returned (.bool true) ∧ Chg No W w') := fun W ts fs TA FA tc fc F hL hL2 hW h1 h2 h3 h4 => by
          obtain ⟨A9, c9, e9, k1, k2⟩ := hW.row_sl
          injection e9 with _ _ e9
          rw [← e9] at k1 k2
          have h9 := alike_any TA FA tc fc ts fs W hW.row_rdG (fun e he => ownE_rG hW.right e he) h1 h2 k1 k2 h3 h4
          rw [hL, hL2, (alike_iff L L).2 rfl] at h9
          exact h9
        go_upto_region 27 with (go_at_call 17; (with_reducible refine HMg.out.mono ?_); rintro x w5 ⟨ts, TA, tc, rfl, q1, q2⟩; have HLt := Lib.hid q1; have HS5 : Hid (Sat w1 (Row 34 4 (.slice TA ts.length tc) ts.length (ts.flatMap enV) * (OwnE ts * (SkipT b hr ns * (Row 22 1 (.slice RA 3 rc) 3 (Rr.map rsv) * (RwsP Rr * (P * Emp)))))) w5) := ((HD3.out.sat.join (q2.of (by rw [star_emp])) (owned_star (owned_row _ _ _ _ _) (owned_ownEG ts))).of (by ac_rfl)); clear q1 q2)
        go_upto_region 28 with (go_at_call 18; (with_reducible refine (HTh.out w5 ts TA tc _ HLt.out HS5.out).mono ?_); rintro x w6 ⟨us, UA, uc, rfl, q1, q2⟩; have HLu := Lib.hid q1; have HS6 : Hid (Sat w1 (Row 34 4 (.slice TA ts.length tc) ts.length (ts.flatMap enV) * (OwnE ts * (SkipT b hr ns * (Row 34 4 (.slice UA us.length uc) us.length (us.flatMap enV) * (OwnE us * (Row 22 1 (.slice RA 3 rc) 3 (Rr.map rsv) * (RwsP Rr * (P * Emp)))))))) w6) := ((HS5.out.join (q2.of (by rw [star_emp])) (owned_star (owned_row _ _ _ _ _) (owned_ownEG us))).of (by ac_rfl)); clear q1 q2)
        go_upto_region 30 with (first
          | (go_at_call 12; (with_reducible refine (topnum_any _ _).mono ?_); rintro y wx ⟨rfl, rfl⟩)
          | (go_at_call 20; (with_reducible refine (HRg.out _ _ HS6.out.up3).mono ?_); rintro x w7 ⟨fs, FA, fc, rfl, q1, q2, q3, q4, q5, q6⟩; have HS7 := Lib.hid (HS6.out.new q6); have HF1 := Lib.hid q1; have HF2 := Lib.hid q2; have HF3 := Lib.hid q3; have HF4 := Lib.hid q4; have HF5 := Lib.hid q5; clear q1 q2 q3 q4 q5 q6)
          | (go_at_call 19; (with_reducible refine (HAl.out _ ts fs TA FA tc fc _ HLt.out HF1.out HS7.out HF4.out HF5.out HF2.out HF3.out).mono ?_); rintro x w8 ⟨rfl, q1⟩; have HS8 := Lib.hid (HS7.out.new q1); clear q1))
        clear HMg HTh HRg HAl HS5 HS6 HS7 HF1 HF2 HF3 HF4 HF5
        have HS9 : Hid (Sat w1 (Row 34 4 (.slice UA us.length uc) us.length (us.flatMap enV) * (OwnE us * (SkipT b hr ns * Emp))) w8) := Sat.right (A := Row 34 4 (.slice TA ts.length tc) ts.length (ts.flatMap enV) * (OwnE ts * (Row 22 1 (.slice RA 3 rc) 3 (Rr.map rsv) * (RwsP Rr * P)))) (HS8.out.of (by ac_rfl))
        clear HS8
        obtain ⟨q0, hq0, hx0, hx1, hx2⟩ := info_parts info_intG
        have Hq0 := Lib.hid hq0; have Hx0 := Lib.hid hx0; have Hx1 := Lib.hid hx1; have Hx2 := Lib.hid hx2
        clear hq0 hx0 hx1 hx2
        have HSn : Hid (∀ W, Chg No w1 W → RdV W C (sn.map fun n => .int .i64 n)) := fun W hW => HSr.out.new (HK1.out.tr hW)
        have HSl : Hid ((sn.map fun n => Value.int .i64 n).length = sn.length * 1) := by unfold Hid; rw [List.length_map, Nat.mul_one]
        have HE0 := Lib.hid (HS9.out.litG 3 1)
        go_upto_region 31 with (first
          | (at_builtin; refine wpList_appS rfl (.tmp 144) (.tmp 145) 23 rfl 3 q0 _ 1 8 Try.underlying23 Hq0.out Hx0.out Hx1.out Hx2.out rfl (by decide) (.slice (some ⟨w8.heap.size, 0, none⟩) 0 0) 0 [] rfl w1 _ (by exact HE0.out) C sn.length cc (sn.map fun n => .int .i64 n) rfl (by exact HSn.out _ (HS9.out.chg.alloc _)) HSl.out (ints_ones sn) (by unfold maxLen; omega) (by omega) ?_; intro A3 c3 w9 hs; rw [Nat.zero_add, List.nil_append] at hs; rw [Nat.zero_add]; have HS10 := Lib.hid hs; clear hs)
          | (at_builtin; refine wpList_appS rfl (.tmp 146) (.tmp 147) 23 rfl 3 q0 _ 1 8 Try.underlying23 Hq0.out Hx0.out Hx1.out Hx2.out rfl (by decide) (.slice A3 sn.length c3) sn.length (sn.map fun n => .int .i64 n) rfl w1 _ (by exact HS10.out.alloc' _) (some ⟨w9.heap.size, 0, none⟩) 1 1 [.int .i64 9223372036854775807] rfl (lit_rdv _ _ _) rfl (ints_ones [9223372036854775807]) (by unfold maxLen; omega) (by omega) ?_; intro A4 c4 w10 hs; have HS11 := Lib.hid hs; clear hs))
        clear HS9 HE0 HS10
        obtain ⟨ats, hats⟩ : ∃ ats, ats = sn ++ [9223372036854775807] := ⟨_, rfl⟩
        have hatl : sn.length + 1 = ats.length := by rw [hats, List.length_append]; rfl
        have hatl7 : ats.length ≤ 7 := by omega
        rw [hatl]
        have HA : Hid (∀ (K : List UInt8) (s : Int), s ∈ ats → lkE K s (thinE false sn L) = lkE K s L) := fun K s hs => by
          refine thin_lk sn K s _ L (Nat.le_refl _) HIn.out.2.2.2.2.2.2.1 ?_
          rw [hats] at hs
          rcases List.mem_append.1 hs with h | h
          · exact .inl h
          · right
            intro x hx
            have := HIn.out.2.2.2.2.2.2.2.2.2.1 x hx
            rw [List.mem_singleton] at h
            omega
        have HSt : Hid (Sat w1 (Row 3 1 (.slice A4 ats.length c4) ats.length (ats.map fun n => .int .i64 n) * (Row 34 4 (.slice UA us.length uc) us.length (us.flatMap enV) * (OwnE us * (SkipT b hr ns * Emp)))) w10) := by
          have h9 := HS11.out
          rw [hatl] at h9
          rw [hats]
          rw [hats] at h9
          rw [List.map_append]
          exact h9
        clear HS11 hats hatl
        have hul : us.length ≤ 60 := by
          have h9 := congrArg List.length HLu.out
          have h8 := (thin_in false sn L).length_le
          have h7 := HIn.out.2.2.2.2.2.2.2.1
          rw [List.length_map] at h9
          omega
        have HUz : Hid (∀ e ∈ us, e.key.2.2.length ≤ 1000000000 ∧ e.value.2.2.length ≤ 1000000000) := fun e he => by
          have h9 : e.ent ∈ thinE false sn L := by rw [← HLu.out]; exact List.mem_map_of_mem he
          have h8 := HIn.out.2.2.2.2.2.2.2.2.2.2 e.ent ((thin_in false sn L).mem h9)
          have h7 : e.key.2.2.length ≤ 128 := h8.1
          have h6 : e.value.2.2.length ≤ 300 := h8.2
          omega
        go_wp2_with fail
        go_loopw [24] (fun iv wr => ∃ i : Nat, i ≤ 60 ∧ i ≤ es.length + keys.length ∧ iv = .int .i64 (i : Int) ∧ Hid (Sat w1 (Row 3 1 (.slice A4 ats.length c4) ats.length (ats.map fun n => .int .i64 n) * (Row 34 4 (.slice UA us.length uc) us.length (us.flatMap enV) * (OwnE us * (SkipT b hr ns * Emp)))) wr)) (fun iv _ => 60 - (intOf iv).toNat)
        case atStart => exact ⟨0, by omega, by omega, rfl, HSt.out⟩
        case round =>
          obtain ⟨i, hi, hi2, rfl, HD4⟩ := hrel
          by_cases hlt : i < es.length + keys.length ∧ i < 60
          · obtain ⟨hl1, hl2⟩ := hlt
            have hl1i : (i : Int) < (es.length : Int) + keys.length := by omega
            have hl2i : (i : Int) < 60 := by omega
            go_upto_region 34 with fail
            go_cut [25] (fun kv wx => kv = .slice none 0 0 ∧ Hid (Sat w1 (Row 3 1 (.slice A4 ats.length c4) ats.length (ats.map fun n => .int .i64 n) * (Row 34 4 (.slice UA us.length uc) us.length (us.flatMap enV) * (OwnE us * (SkipT b hr ns * Emp)))) wx))
            case first =>
              go_wp2_with fail
              go_meet
              exact ⟨rfl, HD4.out⟩
            case rest =>
              obtain ⟨rfl, HD5⟩ := hcut
              refine ‹∀ (a : Act) (w : World), Code.wp _ _ _ a w → _› _ _ ?_
              apply wp_seq_k
              intro _ _
              go_cut [25] (fun kv wx => ∃ K : Slc, kv = .slice K.1 K.2.2.length K.2.1 ∧ Hid ((∀ W, Chg No w1 W → Rd W K.1 K.2.2) ∧ Sat w1 (Row 3 1 (.slice A4 ats.length c4) ats.length (ats.map fun n => .int .i64 n) * (Row 34 4 (.slice UA us.length uc) us.length (us.flatMap enV) * (OwnE us * (SkipT b hr ns * Emp)))) wx))
              case first =>
                by_cases hi3 : i < es.length
                · have hi3i : (i : Int) < es.length := by omega
                  obtain ⟨lb, lo, rfl, hq⟩ := ents_at (HIn.out.2.2.2.1.new HD5.out.chg) (by omega)
                  have y0 := (hq i hi3).1
                  unfold slv' at y0
                  clear hq
                  go_wp2_with fail
                  go_meet
                  exact ⟨es[i].key, rfl, fun W hW => (HIn.out.2.2.2.2.1 _ (List.getElem_mem hi3)).1.new hW, HD5.out⟩
                · have hi3i : ¬ (i : Int) < es.length := by omega
                  obtain ⟨j, hj⟩ : ∃ j : Nat, i = es.length + j := ⟨i - es.length, by omega⟩
                  have hjk : j < keys.length := by omega
                  have hji : (i : Int) - (es.length : Int) = (j : Int) := by omega
                  have hjki : (j : Int) < keys.length := by omega
                  have HRd := Lib.hid ((HD.out.2.2.1.new (HK1.out.tr HD5.out.chg)).get hjk)
                  obtain ⟨⟨db, do_, rfl, y0⟩, _⟩ := HRd.out
                  have HKr : Hid (∀ W, Chg No w1 W → Rd W keys[j].1 keys[j].2.2) := fun W hW => ((HD.out.2.2.1.new (HK1.out.tr hW)).get hjk).2
                  have hwr : IntKind.i64.wrap ((i : Int) - (es.length : Int)) = (j : Int) := by rw [hji, IntKind.wrap_i64]; omega
                  clear hj
                  generalize keys[j] = K at *
                  go_wp2_with fail
                  go_meet
                  exact ⟨K, rfl, HKr.out, HD5.out⟩
              case rest =>
                obtain ⟨K, rfl, HK5⟩ := hcut
                have HGt : Hid (∀ W (s : Int) (F : SP), Sat w1 (SkipT b hr ns * F) W → Calls Try.prog 21 #[.pointer (some ⟨b, 0, none⟩), .slice K.1 K.2.2.length K.2.1, .int .i64 s] W fun x w' => ∃ g : En, x = .returned (.tuple #[.agg #[.slice g.key.1 g.key.2.2.length g.key.2.1, .slice g.value.1 g.value.2.2.length g.value.2.1, .int .i64 g.seq, .bool g.dead], .bool (lkE K.2.2 s L).isSome]) ∧ g.ent = (lkE K.2.2 s L).getD noE ∧ EnR w' g ∧ Chg No W w') := fun W s F hW => by
                  have h9 := getN_any K s b hr ns es.length w1 W F (HK5.out.1 W hW.chg) hW HTab.out (by omega)
                  rw [HEn.out] at h9
                  exact h9.mono fun x w' ⟨⟨g, h1, h2, h3⟩, h4⟩ => ⟨g, h1, h2, h3, h4⟩
                have HSe : Hid (∀ W (s : Int) (F : SP), s ∈ ats → Sat w1 (Row 34 4 (.slice UA us.length uc) us.length (us.flatMap enV) * (OwnE us * F)) W → Calls Try.prog 22 #[.slice UA us.length uc, .slice K.1 K.2.2.length K.2.1, .int .i64 s] W fun x w' => ∃ g : En, x = .returned (.tuple #[.agg #[.slice g.key.1 g.key.2.2.length g.key.2.1, .slice g.value.1 g.value.2.2.length g.value.2.1, .int .i64 g.seq, .bool g.dead], .bool (lkE K.2.2 s L).isSome]) ∧ g.ent = (lkE K.2.2 s L).getD noE ∧ EnR w' g ∧ Chg No W w') := fun W s F hs hW => by
                  have h9 := see_any UA uc us K s W hW.row_rdG (fun e he => ownE_rG hW.right e he) (by omega) HUz.out (HK5.out.1 W hW.chg)
                  rw [HLu.out, HA.out K.2.2 s hs] at h9
                  exact h9.mono fun x w' ⟨g, h1, h2, h3⟩ => ⟨g, h1, h2, ownE_rG (h3.of (star_emp _).symm) g List.mem_cons_self, h3.chg⟩
                have HSm : Hid (∀ W (g h : En), g.ent = h.ent → EnR W g → EnR W h → Calls Try.prog 23 #[.agg #[.slice g.key.1 g.key.2.2.length g.key.2.1, .slice g.value.1 g.value.2.2.length g.value.2.1, .int .i64 g.seq, .bool g.dead], .agg #[.slice h.key.1 h.key.2.2.length h.key.2.1, .slice h.value.1 h.value.2.2.length h.value.2.1, .int .i64 h.seq, .bool h.dead]] W fun e w' => e = .returned (.bool true) ∧ Chg No W w') := fun W g h he h1 h2 => by
                  have h9 := eqE_any g h W h1 h2
                  rw [(eqE_iff g.ent h.ent).2 he] at h9
                  exact h9
                go_wp2_with fail
                go_loopw [26] (fun jv wr => ∃ j : Nat, j ≤ ats.length ∧ jv = .int .i64 (j : Int) ∧ Hid (Sat w1 (Row 3 1 (.slice A4 ats.length c4) ats.length (ats.map fun n => .int .i64 n) * (Row 34 4 (.slice UA us.length uc) us.length (us.flatMap enV) * (OwnE us * (SkipT b hr ns * Emp)))) wr)) (fun jv _ => ats.length - (intOf jv).toNat)
                case atStart => exact ⟨0, by omega, rfl, HK5.out.2⟩
                case round =>
                  obtain ⟨j, hj, rfl, HD6⟩ := hrel
                  by_cases hja : j < ats.length
                  · have hjai : (j : Int) < ats.length := by omega
                    obtain ⟨ag, eA, hrest⟩ := HD6.out.row_at (by omega)
                    clear hrest
                    subst eA
                    obtain ⟨s, hse⟩ : ∃ s, s = ats[j] := ⟨_, rfl⟩
                    have HMe : Hid (s ∈ ats) := by rw [hse]; exact List.getElem_mem hja
                    have HZa : Hid (∀ W, Sat w1 (Row 3 1 (.slice (some ⟨ag, 0, none⟩) ats.length c4) ats.length (ats.map fun n => .int .i64 n) * (Row 34 4 (.slice UA us.length uc) us.length (us.flatMap enV) * (OwnE us * (SkipT b hr ns * Emp)))) W → W.cell? ⟨ag, j, none⟩ = some (.int .i64 s)) := fun W hW => by
                      have h9 := hW.row_cell (j := j) (by rw [List.length_map]; exact hja)
                      rw [List.getElem_map] at h9
                      rw [hse]
                      exact h9
                    have z0 := HZa.out wr HD6.out
                    clear hse
                    go_upto_region 42 with (go_at_call 21; (with_reducible refine (HGt.out _ s _ HD6.out.up4).mono ?_); rintro x w5 ⟨g1, rfl, q1, q2, q3⟩; have HE1 := Lib.hid q1; have HR1 := Lib.hid q2; have HS1 := Lib.hid (HD6.out.new q3); clear q1 q2 q3)
                    obtain ⟨ob, hob⟩ : ∃ ob, (lkE K.2.2 s L).isSome = ob := ⟨_, rfl⟩
                    have HOb := Lib.hid hob
                    rw [hob]
                    clear hob
                    have hne : (ob != ob) = false := by simp
                    have s2 := HS1.out.allocPt 34 #[.slice g1.key.1 g1.key.2.2.length g1.key.2.1, .slice g1.value.1 g1.value.2.2.length g1.value.2.1, .int .i64 g1.seq, .bool g1.dead]
                    have HS2 := Lib.hid s2
                    have z1 := HZa.out _ HS2.out.right
                    have HR1b : Hid (EnR (w5.alloc (.cells #[.slice g1.key.1 g1.key.2.2.length g1.key.2.1, .slice g1.value.1 g1.value.2.2.length g1.value.2.1, .int .i64 g1.seq, .bool g1.dead] 34)) g1) := HR1.out.new ((Chg.refl No w5).alloc _)
                    clear s2
                    go_upto_region 43 with (go_at_call 22; (with_reducible refine (HSe.out _ s _ HMe.out HS2.out.right.right).mono ?_); rintro x w6 ⟨g2, rfl, q1, q2, q3⟩; have HE2 := Lib.hid q1; have HR2 := Lib.hid q2; have HR1c := Lib.hid (HR1b.out.new q3); have HS3 := Lib.hid (HS2.out.new q3); rw [HOb.out]; clear q1 q2 q3)
                    have s4 := HS3.out.allocPt 34 #[.slice g2.key.1 g2.key.2.2.length g2.key.2.1, .slice g2.value.1 g2.value.2.2.length g2.value.2.1, .int .i64 g2.seq, .bool g2.dead]
                    have HS4 := Lib.hid s4
                    have HR1d : Hid (EnR (w6.alloc (.cells #[.slice g2.key.1 g2.key.2.2.length g2.key.2.1, .slice g2.value.1 g2.value.2.2.length g2.value.2.1, .int .i64 g2.seq, .bool g2.dead] 34)) g1) := HR1c.out.new ((Chg.refl No w6).alloc _)
                    have HR2d : Hid (EnR (w6.alloc (.cells #[.slice g2.key.1 g2.key.2.2.length g2.key.2.1, .slice g2.value.1 g2.value.2.2.length g2.value.2.1, .int .i64 g2.seq, .bool g2.dead] 34)) g2) := HR2.out.new ((Chg.refl No w6).alloc _)
                    have HEq : Hid (g1.ent = g2.ent) := HE1.out.trans HE2.out.symm
                    have b0 := HS4.out.up2.cell 0; have b1 := HS4.out.up2.cell 1; have b2 := HS4.out.up2.cell 2; have b3 := HS4.out.up2.cell 3
                    clear s4
                    go_wp2_with (go_at_call 23; (with_reducible refine (HSm.out _ g1 g2 HEq.out HR1d.out HR2d.out).mono ?_); rintro x w7 ⟨rfl, q1⟩; have HS5 := Lib.hid (HS4.out.new q1); clear q1)
                    go_roundw
                    · exact ⟨j + 1, by omega, by go_num, HS5.out.right.right⟩
                    · simp [intOf]; omega
                  · have hjai : ¬ (j : Int) < ats.length := by omega
                    go_wp2_with fail
                    go_roundw
                    · exact ⟨i + 1, by omega, by omega, by go_num, HD6.out⟩
                    · simp [intOf]; omega
          · have hlti : ¬ (i : Int) < (es.length : Int) + keys.length ∨ ¬ (i : Int) < 60 := by omega
            rcases hlti with h | h
            · go_wp2_with fail
              go_ret
              exact ⟨rfl, HK1.out.tr HD4.out.chg⟩
            · by_cases h8 : (i : Int) < (es.length : Int) + keys.length
              all_goals
                go_wp2_with fail
                go_ret
                exact ⟨rfl, HK1.out.tr HD4.out.chg⟩
end Go.Proofs.Ytaoenbjfkahdjaa
