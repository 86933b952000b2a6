/- merge: an entry in new memory; which of a key's entries are seen. (Written by gen_mrg1.py.) -/
import Derived.Test.YtaoenbjfkahdjaaQ04
import Derived.Test.YtaoenbjfkahdjaaQ06
import Derived.Test.YtaoenbjfkahdjaaQThn
namespace Go.Proofs.Ytaoenbjfkahdjaa
open Go.RowKit
set_option linter.unusedVariables false
set_option maxRecDepth 100000

set_option maxHeartbeats 1000000 in
theorem gcopied0 (e : En) (w : World) (hr : EnR w e) (hk : e.key.2.2.length ≤ 140737488355328) (hv : e.value.2.2.length ≤ 140737488355328) :
    Calls Try.prog 70 #[enA e] w (CopiedS w Emp e) := by
  have h := Sat.start w
  obtain ⟨⟨kA, kc, k⟩, ⟨vA, vc, v⟩, seq, dead⟩ := e
  have HRk : Hid (Rd w kA k) := hr.1
  have HRv : Hid (Rd w vA v) := hr.2
  have hk' : k.length ≤ 140737488355328 := hk
  have hv' : v.length ≤ 140737488355328 := hv
  have h1 := h.allocAt (b := w.heap.size) 34 #[.slice kA k.length kc, .slice vA v.length vc, .int .i64 seq, .bool dead] rfl
  have h2 := h1.allocAt (b := w.heap.size + 1) 34 #[.slice none 0 0, .slice none 0 0, .int .i64 0, .bool false] (by simp)
  have hc2 : Chg No w _ := ((Chg.refl No w).alloc (.cells #[.slice kA k.length kc, .slice vA v.length vc, .int .i64 seq, .bool dead] 34)).alloc (.cells #[.slice none 0 0, .slice none 0 0, .int .i64 0, .bool false] 34)
  clear hr h h1
  unfold enA
  go_enter Try.func70, Try.ntmps70
  go_wp2_with fail
  revert h2 hc2
  generalize (w.alloc _).alloc _ = W
  intro h2 hc2
  generalize w.heap.size + 1 = B at *
  generalize w.heap.size = E at *
  have c0 := h2.up2.cell 0; have c1 := h2.up2.cell 1; have c2 := h2.up2.cell 2; have c3 := h2.up2.cell 3
  have HS0 := Lib.hid h2
  have HC0 := Lib.hid hc2
  clear h2 hc2
  go_region_law (first
    | (go_simp; go_at_call 87; (with_reducible refine (cloneS kA kc k HS0.out.drew (HRk.out.new HC0.out.drew) hk').mono ?_); rintro x w1 ⟨A, c, rfl, k1, hs1⟩; have HS1 := Lib.hid hs1; have HC1 := Lib.hid (HC0.out.drew.tr k1); have c0 := hs1.up3.cell 0; have c1 := hs1.up3.cell 1; have c2 := hs1.up3.cell 2; have c3 := hs1.up3.cell 3; clear hs1 k1)
    | (go_simp; go_at_call 87; (with_reducible refine (cloneS vA vc v HS1.out (HRv.out.new HC1.out) hv').mono ?_); rintro x w2 ⟨B2, d, rfl, k2, hs2⟩; have HS2 := Lib.hid hs2; have HC2 := Lib.hid (HC1.out.tr k2); have c0 := hs2.up4.cell 0; have c1 := hs2.up4.cell 1; have c2 := hs2.up4.cell 2; have c3 := hs2.up4.cell 3; have f0 := hs2.up4.frozen 0; have f1 := hs2.up4.frozen 1; clear hs2 k2))
  all_goals
    have h5 := (HS2.out.up4.set 0 (.slice A k.length c)).set 1 (.slice B2 v.length d)
    clear f0 f1 c0 c1 c2 c3
    revert h5
    generalize World.setCell _ _ _ = w3
    intro h5
    have c0 := h5.cell 0; have c1 := h5.cell 1; have c2 := h5.cell 2; have c3 := h5.cell 3
    have d0 := h5.up4.cell 0; have d1 := h5.up4.cell 1; have d2 := h5.up4.cell 2; have d3 := h5.up4.cell 3
    have f0 := h5.up4.frozen 0; have f1 := h5.up4.frozen 1; have f2 := h5.up4.frozen 2; have f3 := h5.up4.frozen 3
    have h6 := (((h5.up4.set 0 (.slice A k.length c)).set 1 (.slice B2 v.length d)).set 2 (.int .i64 seq)).set 3 (.bool dead)
    go_wp2_with fail
    revert h6
    generalize World.setCell _ _ _ = w4
    intro h6
    refine bodyPost_ret (results_cell_row (p := 2) (by kernel_rfl) _ _ B 34 _ (0, 0) _ rfl h6.at Try.underlying34 rfl (by kernel_rfl)) rfl ?_
    exact ⟨A, c, B2, d, rfl, h6.right.right.up2⟩
theorem gcopied_any (e : En) (w0 w : World) (F : SP) (h : Sat w0 F w) (hr : EnR w e) (hk : e.key.2.2.length ≤ 140737488355328) (hv : e.value.2.2.length ≤ 140737488355328) :
    Calls Try.prog 70 #[enA e] w fun x w' => CopiedS w0 F e x w' ∧ Chg No w w' := by
  refine (gcopied0 e w hr hk hv).mono ?_
  rintro x w' ⟨A, c, B, d, rfl, hs⟩
  exact ⟨⟨A, c, B, d, rfl, (h.join hs (owned_star (owned_row _ _ _ _ _) (owned_star (owned_row _ _ _ _ _) owned_emp))).of (by rw [star_assoc, star_assoc, emp_star])⟩, hs.chg⟩

def plainG (z : Value) (n : Nat) : Array Value := (List.replicate n z).toArray
theorem made_oneG (z : Value) (n : Nat) : madeCells #[z] n = plainG z n := by
  apply Array.ext'
  apply List.ext_getElem?
  intro j
  simp [madeCells, plainG, List.getElem?_replicate]
  by_cases h : j < n
  · simp [h]
    rw [Nat.mod_one]
    rfl
  · simp [h]
theorem infoG_bool : (Try.prog.info? 4).map (fun i => (i.zero, i.size, i.bytes)) = some (some (.bool false), 1, 1) := by kernel_rfl
theorem gmake_bools (n : Nat) (hn : n ≤ 1000000) (W : World) : (Instr.makeSlice 122 (.int .i64 (n : Int)) (.int .i64 (n : Int))).run Try.prog W =
    .ok (.slice (some ⟨W.heap.size, 0, none⟩) n n) (W.alloc (.cells (plainG (.bool false) n) 4)) := by
  obtain ⟨i0, hi, hz0, hz1, hz2⟩ := info_parts infoG_bool
  have hr := run_make (P := Try.prog) W 122 4 i0 _ Try.underlying122 hi hz0 .i64 .i64 n n (by omega) (by omega) (by rw [hz2]; omega) (by omega)
  have hc : (Value.bool false).cells = #[.bool false] := rfl
  simpa [hz1, hc, made_oneG] using hr
theorem seen1_any (bl bs : Nat) (A : Option Addr) (c : Nat) (es : List En) (s : Int) (i : Nat) (w : World) (h1 : w.cell? ⟨bl, 0, none⟩ = some (.slice A es.length c)) (h2 : w.cell? ⟨bs, 0, none⟩ = some (.int .i64 s)) (hr : RdV w A (es.flatMap enV)) (hi : i < es.length) :
    Calls Try.prog 98 #[.int .i64 (i : Int), .pointer (some ⟨bl, 0, none⟩), .pointer (some ⟨bs, 0, none⟩)] w fun x w' => x = .returned (.bool (decide (es[i].seq ≤ s))) ∧ Chg No w w' := by
  obtain ⟨lb, lo, rfl, hq⟩ := ents_at hr (by omega)
  obtain ⟨y0, y1, y2, y3⟩ := hq i hi
  have hii : (i : Int) < es.length := by omega
  have S0 : w.cell? ⟨bl, 0, none⟩ = some (.slice (some ⟨lb, lo, none⟩) es.length c) ∧ w.cell? ⟨bs, 0, none⟩ = some (.int .i64 s) ∧ w.cell? ⟨lb, lo + i * 4 + 2, none⟩ = some (.int .i64 es[i].seq) := ⟨h1, h2, y2⟩
  have HS := Lib.hid S0
  clear hq y0 y1 y2 y3 h1 h2 hr S0
  go_enter Try.func98, Try.ntmps98
  go_upto_region 1 with fail
  refine wp_region_held_drew (S := fun w' => w'.cell? ⟨bl, 0, none⟩ = some (.slice (some ⟨lb, lo, none⟩) es.length c) ∧ w'.cell? ⟨bs, 0, none⟩ = some (.int .i64 s) ∧ w'.cell? ⟨lb, lo + i * 4 + 2, none⟩ = some (.int .i64 es[i].seq)) (by kernel_rfl) HS.out ?_
  intro hS0
  refine rgn_take (i := 0) (v := ?rv1) rfl (by kernel_rfl) (by kernel_rfl) (by kernel_rfl) (fun _ _ _ h => h) (by rfl) ?rh1 (by assumption) ?rr1
  case rh1 => (intro w hSw; (try dsimp only at hSw); go_simp; try with_reducible rfl)
  simp only [Act.put, List.setIfInBounds_toArray, List.set_cons_zero, List.set_cons_succ]
  refine rgn_take (i := 1) (v := ?rv2) rfl (by kernel_rfl) (by kernel_rfl) (by kernel_rfl) (fun _ _ _ h => h) (by rfl) ?rh2 (by assumption) ?rr2
  case rh2 => (intro w hSw; (try dsimp only at hSw); go_simp; try with_reducible rfl)
  simp only [Act.put, List.setIfInBounds_toArray, List.set_cons_zero, List.set_cons_succ]
  refine rgn_take (i := 2) (v := ?rv3) rfl (by kernel_rfl) (by kernel_rfl) (by kernel_rfl) (fun _ _ _ h => h) (by rfl) ?rh3 (by assumption) ?rr3
  case rh3 => (intro w hSw; (try dsimp only at hSw); go_simp; try with_reducible rfl)
  simp only [Act.put, List.setIfInBounds_toArray, List.set_cons_zero, List.set_cons_succ]
  refine rgn_take (i := 3) (v := ?rv4) rfl (by kernel_rfl) (by kernel_rfl) (by kernel_rfl) (fun _ _ _ h => h) (by rfl) ?rh4 (by assumption) ?rr4
  case rh4 => (intro w hSw; (try dsimp only at hSw); go_simp; try with_reducible rfl)
  simp only [Act.put, List.setIfInBounds_toArray, List.set_cons_zero, List.set_cons_succ]
  refine rgn_take (i := 4) (v := ?rv5) rfl (by kernel_rfl) (by kernel_rfl) (by kernel_rfl) (fun _ _ _ h => h) (by rfl) ?rh5 (by assumption) ?rr5
  case rh5 => (intro w hSw; (try dsimp only at hSw); go_simp; try with_reducible rfl)
  simp only [Act.put, List.setIfInBounds_toArray, List.set_cons_zero, List.set_cons_succ]
  refine rgn_take (i := 5) (v := ?rv6) rfl (by kernel_rfl) (by kernel_rfl) (by kernel_rfl) (fun _ _ _ h => h) (by rfl) ?rh6 (by assumption) ?rr6
  case rh6 => (intro w hSw; (try dsimp only at hSw); go_simp; try with_reducible rfl)
  simp only [Act.put, List.setIfInBounds_toArray, List.set_cons_zero, List.set_cons_succ]
  refine rgn_take (i := 6) (v := ?rv7) rfl (by kernel_rfl) (by kernel_rfl) (by kernel_rfl) (fun _ _ _ h => h) (by rfl) ?rh7 (by assumption) ?rr7
  case rh7 => (intro w hSw; (try dsimp only at hSw); go_simp; try with_reducible rfl)
  simp only [Act.put, List.setIfInBounds_toArray, List.set_cons_zero, List.set_cons_succ]
  refine rgn_take (i := 7) (v := ?rv8) rfl (by kernel_rfl) (by kernel_rfl) (by kernel_rfl) (fun _ _ _ h => h) (by rfl) ?rh8 (by assumption) ?rr8
  case rh8 => (intro w hSw; (try dsimp only at hSw); go_simp; try with_reducible rfl)
  simp only [Act.put, List.setIfInBounds_toArray, List.set_cons_zero, List.set_cons_succ]
  refine wpAnyH_done (by kernel_rfl) ?_ _
  go_wp2_with fail
  go_ret
  exact ⟨rfl, (Chg.refl No w).drew⟩
/-- The first place of a number that is not above s. -/
def fstS (s : Int) (es : List En) : Nat := es.findIdx fun e => decide (e.seq ≤ s)
structure SeAt (w : World) (es : List En) (s : Int) (i j : Nat) (wr : World) : Prop where
  lo : ∀ (m : Nat) (h : m < es.length), m < i → ¬ es[m].seq ≤ s
  hi : ∀ (m : Nat) (h : m < es.length), j ≤ m → es[m].seq ≤ s
  chg : Chg No w wr
theorem fstS_is {s : Int} {es : List En} {k : Nat} (hk : k ≤ es.length) (lo : ∀ (m : Nat) (h : m < es.length), m < k → ¬ es[m].seq ≤ s) (hi : ∀ h : k < es.length, es[k].seq ≤ s) : fstS s es = k := by
  unfold fstS
  by_cases h : k < es.length
  · rw [List.findIdx_eq h]
    exact ⟨by simpa using hi h, fun m hm => by simpa using lo m (by omega) hm⟩
  · have : k = es.length := by omega
    subst this
    rw [List.findIdx_eq_length]
    intro x hx
    obtain ⟨m, hm, rfl⟩ := List.getElem_of_mem hx
    simpa using lo m hm hm
set_option maxHeartbeats 2000000 in
theorem seenS_any (bl bs : Nat) (A : Option Addr) (c : Nat) (es : List En) (s : Int) (w : World) (h1 : w.cell? ⟨bl, 0, none⟩ = some (.slice A es.length c)) (h2 : w.cell? ⟨bs, 0, none⟩ = some (.int .i64 s)) (hr : RdV w A (es.flatMap enV)) (hn : es.length ≤ 1000000)
    (hmono : ∀ (a b : Nat) (ha : a < es.length) (hb : b < es.length), a ≤ b → es[a].seq ≤ s → es[b].seq ≤ s) :
    Calls Try.prog 95 #[.int .i64 (es.length : Int), .func (.func 98) #[] #[.pointer (some ⟨bl, 0, none⟩), .pointer (some ⟨bs, 0, none⟩)]] w fun x w' => x = .returned (.int .i64 (fstS s es : Nat)) ∧ Chg No w w' := by
  have H1 := Lib.hid h1; have H2 := Lib.hid h2; have HR := Lib.hid hr; have HM := Lib.hid hmono
  clear h1 h2 hr hmono
  go_enter Try.func95, Try.ntmps95
  go_wp2_with fail
  go_loopw [5, 6] (fun iv jv wr => ∃ i j : Nat, i ≤ j ∧ j ≤ es.length ∧ iv = .int .i64 i ∧ jv = .int .i64 j ∧ Hid (SeAt w es s i j wr)) (fun iv jv _ => ((intOf jv) - (intOf iv)).toNat)
  case atStart => exact ⟨0, es.length, by omega, by omega, rfl, rfl, fun m _ h => by omega, fun m h h2 => by omega, Chg.refl _ _⟩
  case round =>
    obtain ⟨i, j, hij, hj, rfl, rfl, HD⟩ := hrel
    by_cases hlt : i < j
    · obtain ⟨m, hm⟩ : ∃ m, m = (i + j) / 2 := ⟨_, rfl⟩
      have hmi : i ≤ m := by omega
      have hmj : m < j := by omega
      have hml : m < es.length := by omega
      have hw1 : IntKind.u64.wrap ((i : Int) + (j : Int)) = (i : Int) + j := by rw [IntKind.wrap_u64]; omega
      have hsh : ((i : Int) + j) / 2 = m := by omega
      have hw2 : IntKind.i64.wrap (m : Int) = m := by rw [IntKind.wrap_i64]; omega
      have HMm := Lib.hid hm
      clear hm
      obtain ⟨Z, hZ⟩ : ∃ Z, decide (es[m].seq ≤ s) = Z := ⟨_, rfl⟩
      have HZ := Lib.hid hZ
      clear hZ
      cases Z
      all_goals
        go_wp2_with (go_at_call 98; refine (seen1_any bl bs A c es s m _ (HD.out.chg.cell H1.out id) (HD.out.chg.cell H2.out id) (HR.out.new HD.out.chg) hml).mono ?_; rintro x w1 ⟨rfl, k1⟩; rw [HZ.out]; have HK := Lib.hid (HD.out.chg.tr k1); clear k1)
        go_roundw
      · exact ⟨m + 1, j, by omega, by omega, by push_cast; rfl, rfl, ⟨fun a ha h2 h3 => of_decide_eq_false HZ.out (HM.out a m ha hml (by omega) h3), HD.out.hi, HK.out⟩⟩
      · simp [intOf]; omega
      · exact ⟨i, m, by omega, by omega, rfl, rfl, ⟨HD.out.lo, fun a ha h2 => HM.out m a hml ha h2 (of_decide_eq_true HZ.out), HK.out⟩⟩
      · simp [intOf]; omega
    · have hij2 : i = j := by omega
      subst hij2
      go_wp2_with fail
      go_ret
      refine ⟨?_, HD.out.chg⟩
      rw [fstS_is hj (fun a ha h2 => HD.out.lo a ha h2) (fun h => HD.out.hi i h (Nat.le_refl _))]
      rfl
/-- The marks. -/
def mrkTo (es : List En) (snaps : List Int) : List Bool := snaps.foldl (fun b s => b.set (fstS s es) true) ((List.replicate es.length false).set 0 true)
theorem mrk_len (es : List En) : ∀ (snaps : List Int) (b : List Bool), (snaps.foldl (fun b s => b.set (fstS s es) true) b).length = b.length
  | [], b => rfl
  | s :: snaps, b => by rw [List.foldl_cons, mrk_len es snaps, List.length_set]
theorem mrkTo_len (es : List En) (snaps : List Int) : (mrkTo es snaps).length = es.length := by unfold mrkTo; rw [mrk_len, List.length_set, List.length_replicate]
theorem mrkTo_snoc (es : List En) (snaps : List Int) (s : Int) : mrkTo es (snaps ++ [s]) = (mrkTo es snaps).set (fstS s es) true := by unfold mrkTo; rw [List.foldl_append]; rfl
theorem bools_set (l : List Bool) (k : Nat) (b : Bool) : (l.set k b).map Value.bool = (l.map Value.bool).set k (.bool b) := by rw [List.map_set]
section
variable {w0 w : World} {F : SP}
/-- What holds in the rounds of seen. -/
def SeenS (w0 : World) (es : List En) (snaps : List Int) (k g : Nat) (bl : Nat) (A : Option Addr) (c : Nat) (wr : World) : Prop := Sat w0 (Row 4 1 (.slice (some ⟨g, 0, none⟩) es.length es.length) es.length ((mrkTo es (snaps.take k)).map Value.bool) * (Pt bl 22 #[.slice A es.length c] * Emp)) wr
set_option maxHeartbeats 2000000 in
theorem seen0 (A : Option Addr) (c : Nat) (es : List En) (SA : Option Addr) (sc : Nat) (snaps : List Int) (w : World) (hr : RdV w A (es.flatMap enV)) (hs : RdV w SA (snaps.map fun x => .int .i64 x)) (hn : 1 ≤ es.length ∧ es.length ≤ 1000000) (hsn : snaps.length ≤ 1000000)
    (hmono : ∀ (s : Int) (a b : Nat) (ha : a < es.length) (hb : b < es.length), a ≤ b → es[a].seq ≤ s → es[b].seq ≤ s) :
    Calls Try.prog 71 #[.slice A es.length c, .slice SA snaps.length sc] w fun x w' => ∃ g, x = .returned (.slice (some ⟨g, 0, none⟩) es.length es.length) ∧ Sat w (Row 4 1 (.slice (some ⟨g, 0, none⟩) es.length es.length) es.length ((mrkTo es snaps).map Value.bool) * Emp) w' := by
  have s1 := (Sat.start w).allocPt 22 #[.slice A es.length c]
  have HR := Lib.hid hr; have HSn := Lib.hid hs; have HM := Lib.hid hmono
  have HMk := Lib.hid (fun W => gmake_bools es.length hn.2 W)
  obtain ⟨hn1, hn2⟩ := hn
  clear hr hs hmono
  have s2 := s1.allocAt (b := w.heap.size + 1) 4 (plainG (.bool false) es.length) (by simp)
  have s3 := s2.row_pt (n := es.length) (cap := es.length) (size := 1) (Nat.le_refl _) (by unfold maxLen; omega) (by unfold plainG; simp)
  have e3 : (plainG (.bool false) es.length).toList.take (es.length * 1) = (List.replicate es.length false).map Value.bool := by unfold plainG; simp
  rw [e3] at s3
  have s5 := s1.allocAt (b := w.heap.size + 1) 4 ((plainG (.bool false) es.length).setIfInBounds 0 (.bool true)) (by simp)
  have s4 := s5.row_pt (n := es.length) (cap := es.length) (size := 1) (Nat.le_refl _) (by unfold maxLen; omega) (by unfold plainG; simp)
  have e4 : ((plainG (.bool false) es.length).setIfInBounds 0 (.bool true)).toList.take (es.length * 1) = ((List.replicate es.length false).set 0 true).map Value.bool := by
    unfold plainG
    rw [bools_set, List.map_replicate, Nat.mul_one, Array.toList_setIfInBounds, List.take_of_length_le (by simp)]
  rw [e4] at s4
  have f0 := s3.row_free 0
  have c0 := s3.row_cell (j := 0) (by simp; omega)
  simp only [List.getElem_map, List.getElem_replicate] at c0
  have q0 := HMk.out
  have hne : ¬ ((es.length : Int) = 0) := by omega
  go_enter Try.func71, Try.ntmps71
  go_upto_region 3 with fail
  clear f0 c0 q0 hne s2 s3 e3 s5 e4 s1
  revert s4
  generalize World.alloc (World.alloc w _) _ = w3
  generalize w.heap.size + 1 = g
  generalize w.heap.size = bl
  intro s4
  have HS4 : Hid (SeenS w es snaps 0 g bl A c w3) := s4
  clear s4
  go_wp2_with fail
  go_loopw [16] (fun iv wr => ∃ k : Nat, k ≤ snaps.length ∧ iv = .int .i64 k ∧ Hid (SeenS w es snaps k g bl A c wr)) (fun iv _ => snaps.length - (intOf iv).toNat)
  case atStart => exact ⟨0, by omega, rfl, HS4.out⟩
  case round =>
    obtain ⟨k, hk, rfl, HD⟩ := hrel
    by_cases hlt : k < snaps.length
    · obtain ⟨sb, so, rfl, hsc⟩ := (HSn.out.new (Sat.chg HD.out)).get (j := k) (by simpa using hlt)
      simp only [List.getElem_map] at hsc
      obtain ⟨q, hq⟩ : ∃ q, snaps[k] = q := ⟨_, rfl⟩
      have HQe : Hid (snaps.take (k + 1) = snaps.take k ++ [q]) := by
        unfold Hid
        rw [List.take_add_one, List.getElem?_eq_getElem hlt, hq]
        rfl
      rw [hq] at hsc
      clear hq
      have s6 := Sat.allocPt HD.out 3 #[.int .i64 q]
      have c1 := s6.up3.cell 0
      have HSe : Hid (Calls Try.prog 95 #[.int .i64 (es.length : Int), .func (.func 98) #[] #[.pointer (some ⟨bl, 0, none⟩), .pointer (some ⟨wr.heap.size, 0, none⟩)]] (wr.alloc (.cells #[.int .i64 q] 3)) fun x w' => x = .returned (.int .i64 (fstS q es : Nat)) ∧ Chg No (wr.alloc (.cells #[.int .i64 q] 3)) w') :=
        seenS_any bl wr.heap.size A c es q _ c1 (s6.cell 0) (HR.out.new s6.chg) hn2 (HM.out q)
      have HS6 := Lib.hid s6
      have hf : fstS q es ≤ es.length := List.findIdx_le_length
      obtain ⟨z, hz⟩ : ∃ z, fstS q es = z := ⟨_, rfl⟩
      have HNx : Hid (mrkTo es (snaps.take (k + 1)) = (mrkTo es (snaps.take k)).set z true) := by
        unfold Hid
        rw [HQe.out, mrkTo_snoc, hz]
      rw [hz] at HSe hf
      clear hz s6
      have hml := mrkTo_len es (snaps.take k)
      by_cases hzn : z < es.length
      · have hzi : (z : Int) < es.length := by omega
        go_wp2_with (go_at_call 95; (with_reducible refine HSe.out.mono ?_); rintro x w7 ⟨rfl, k7⟩; have HS7 := Lib.hid (HS6.out.new k7); have c2 := HS7.out.up3.cell 0; have c3 := HS7.out.up2.row_cell (j := z) (by rw [List.length_map, hml]; exact hzn); have f3 := HS7.out.up2.row_free z; clear k7)
        have h9 := HS7.out.up2.row_setj (j := z) (.bool true)
        rw [← bools_set, ← HNx.out] at h9
        go_roundw
        · exact ⟨k + 1, by omega, by go_num, Sat.right (A := Pt wr.heap.size 3 #[.int .i64 q]) (h9.of (by ac_rfl))⟩
        · simp [intOf]; omega
      · have hzi : ¬ (z : Int) < es.length := by omega
        have HNy : Hid ((mrkTo es (snaps.take k)).set z true = mrkTo es (snaps.take k)) := List.set_eq_of_length_le (by omega)
        go_wp2_with (go_at_call 95; (with_reducible refine HSe.out.mono ?_); rintro x w7 ⟨rfl, k7⟩; have HS7 := Lib.hid (HS6.out.new k7); have c2 := HS7.out.up3.cell 0; clear k7)
        go_roundw
        · refine ⟨k + 1, by omega, by go_num, ?_⟩
          unfold Hid SeenS
          rw [HNx.out, HNy.out]
          exact HS7.out.right
        · simp [intOf]; omega
    · have hke : snaps.take k = snaps := List.take_of_length_le (by omega)
      go_wp2_with fail
      go_ret
      refine ⟨g, rfl, ?_⟩
      have h9 := HD.out
      unfold SeenS at h9
      rw [hke] at h9
      exact Sat.right (A := Pt bl 22 #[.slice A es.length c]) (h9.of (by ac_rfl))
theorem seen_any (A : Option Addr) (c : Nat) (es : List En) (SA : Option Addr) (sc : Nat) (snaps : List Int) (h : Sat w0 F w) (hr : RdV w A (es.flatMap enV)) (hs : RdV w SA (snaps.map fun x => .int .i64 x)) (hn : 1 ≤ es.length ∧ es.length ≤ 1000000) (hsn : snaps.length ≤ 1000000)
    (hmono : ∀ (s : Int) (a b : Nat) (ha : a < es.length) (hb : b < es.length), a ≤ b → es[a].seq ≤ s → es[b].seq ≤ s) :
    Calls Try.prog 71 #[.slice A es.length c, .slice SA snaps.length sc] w fun x w' => ∃ g, x = .returned (.slice (some ⟨g, 0, none⟩) es.length es.length) ∧ Sat w0 (Row 4 1 (.slice (some ⟨g, 0, none⟩) es.length es.length) es.length ((mrkTo es snaps).map Value.bool) * F) w' ∧ Chg No w w' := by
  refine (seen0 A c es SA sc snaps w hr hs hn hsn hmono).mono ?_
  rintro x w' ⟨g, rfl, hs⟩
  exact ⟨g, rfl, (h.join hs (owned_star (owned_row _ _ _ _ _) owned_emp)).of (by rw [star_assoc, emp_star]), hs.chg⟩
end
end Go.Proofs.Ytaoenbjfkahdjaa
