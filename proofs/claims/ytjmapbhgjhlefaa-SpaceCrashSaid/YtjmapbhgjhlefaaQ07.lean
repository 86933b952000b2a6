/- Joined, as they were built one by one: Ext2 Rgn Ext3 Ext4. -/
import Derived.Test.YtjmapbhgjhlefaaQ01
import Derived.Test.YtjmapbhgjhlefaaQ06
namespace Go.Proofs.Ytjmapbhgjhlefaa
open Go.RowKit
set_option linter.unusedVariables false
set_option maxRecDepth 100000

section
variable {w0 w : World} {F : SP} {s d slot turn : Nat} {v : Value} {ps : List (Nat × Fl)} {D : Dk}
theorem Sat.row_rol {A : Option Addr} {c n : Nat} {l : List UInt8} (h : Sat w0 (Row 5 1 (.slice A n c) n (l.map bv) * F) w) : Sat w0 (RoL [(A, c, l)] * F) w := by
  obtain ⟨A2, c2, e, _, _, h2⟩ := h.row_ro
  injection e with e1 _ e3
  subst e1; subst e3
  have := rb_rol (A, c, l)
  rw [← this]
  exact h2
def freeN (n : Int) (fs : List Fl) : Int := fs.foldl (fun x f => x - (f.blocks : Int)) n
theorem freeN_snoc (n : Int) (fs : List Fl) (f : Fl) : freeN n (fs ++ [f]) = freeN n fs - f.blocks := by unfold freeN; rw [List.foldl_append]; rfl
theorem freeN_bound : ∀ (fs : List Fl) (n : Int) (B : Nat), (∀ f ∈ fs, f.blocks ≤ B) → n - B * fs.length ≤ freeN n fs ∧ freeN n fs ≤ n
  | [], n, B, _ => by unfold freeN; simp
  | f :: fs, n, B, h => by
    have h1 := freeN_bound fs (n - f.blocks) B (fun x hx => h x (List.mem_cons_of_mem _ hx))
    have h2 := h f (by simp)
    have e : freeN n (f :: fs) = freeN (n - f.blocks) fs := rfl
    rw [e, List.length_cons]
    have h3 : (B : Int) * ((fs.length + 1 : Nat) : Int) = B * fs.length + B := by push_cast; rw [Int.mul_add, Int.mul_one]
    rw [h3]
    omega
set_option maxHeartbeats 1000000 in
theorem free_any (h : Sat w0 (SpaceC s d slot turn v ps * (Disk d D * F)) w) (hl : ps.length ≤ 1000) (hn : D.cells.length ≤ 65536) (hb : ∀ x ∈ ps, x.2.blocks ≤ 65536) :
    Calls Try.prog 25 #[.pointer (some ⟨s, 0, none⟩)] w fun e w' => e = .returned (.int .i64 (freeN ((D.cells.length : Int) - 2) (ps.map (·.2)))) ∧ w = w' := by
  have HB := Lib.hid (blocks_any d D w0 w _ h.up2)
  obtain ⟨A, c, rfl, h1, h2, h3, h4, h5, h6, h7⟩ := h.spaceR
  unfold ptrV at h4
  have HS := Lib.hid h
  have HR := Lib.hid h3
  have HBl := Lib.hid hb
  have hw0 : IntKind.i64.wrap ((D.cells.length : Int) - 2) = (D.cells.length : Int) - 2 := by rw [IntKind.wrap_i64]; omega
  clear h h3 h5 h6 hb
  go_enter Try.func25, Try.ntmps25
  go_wp2_with (go_at_call 33; (with_reducible refine HB.out.mono ?_); rintro x wx ⟨rfl, rfl⟩)
  go_loopw [3, 5, 17] (fun ov _ iv wr => ∃ (k : Nat) (z : Int), k ≤ ps.length ∧ ov = .int .i64 z ∧ iv = .int .i64 (k : Int) ∧ wr = w ∧ Hid (z = freeN ((D.cells.length : Int) - 2) ((ps.take k).map (·.2)))) (fun _ _ iv _ => ps.length - (intOf iv).toNat)
  case atStart => exact ⟨0, _, by omega, rfl, rfl, rfl, rfl⟩
  case round =>
    obtain ⟨k, z, hk, rfl, rfl, rfl, HD⟩ := hrel
    by_cases hlt : k < ps.length
    · obtain ⟨b, o, rfl, hc⟩ := ptr_get HR.out hlt
      obtain ⟨u, ks, hks, hg, hu⟩ := HS.out.spaceF hlt
      have g2 := hg.2.2.1
      have hk2 : (k : Int) < ps.length := by omega
      have hbk := HBl.out ps[k] (List.getElem_mem hlt)
      have hbd := freeN_bound ((ps.take k).map (·.2)) ((D.cells.length : Int) - 2) 65536 (fun f hf => by
        obtain ⟨x, hx, rfl⟩ := List.mem_map.1 hf
        exact HBl.out x (List.mem_of_mem_take hx))
      rw [← HD.out, List.length_map, List.length_take, Nat.min_eq_left (by omega)] at hbd
      have HN : Hid (z - (ps[k].2.blocks : Int) = freeN ((D.cells.length : Int) - 2) ((ps.take (k + 1)).map (·.2))) := by
        unfold Hid
        rw [List.take_succ_eq_append_getElem hlt, List.map_append, List.map_singleton, freeN_snoc, ← HD.out]
      have hw : IntKind.i64.wrap (z - (ps[k].2.blocks : Int)) = z - (ps[k].2.blocks : Int) := by rw [IntKind.wrap_i64]; omega
      clear hg hu hks hbd hbk
      generalize ps[k].2.blocks = m2 at *
      generalize ps[k].1 = q at *
      go_wp2_with fail
      go_roundw
      · exact ⟨k + 1, _, by omega, rfl, by push_cast; rfl, trivial, HN.out⟩
      · simp [intOf]; omega
    · obtain rfl : k = ps.length := by omega
      have hk2 : ¬ ((ps.length : Nat) : Int) < ps.length := by omega
      go_wp2_with fail
      go_ret
      refine ⟨?_, rfl⟩
      rw [← List.take_length (l := ps), ← HD.out]
      rfl
theorem sync_any (h : Sat w0 (SpaceC s d slot turn v ps * (Disk d D * F)) w) (hw2 : D.pend.length ≤ 1000000000) :
    Calls Try.prog 20 #[.pointer (some ⟨s, 0, none⟩)] w fun e w' => e = .returned (.int .i64 D.flush.2) ∧ Sat w0 (SpaceC s d slot turn v ps * (Disk d D.flush.1 * F)) w' := by
  have HB := Lib.hid (flush_any d D w0 w _ h.up2 hw2)
  obtain ⟨A, c, rfl, h1, h2, h3, h4, h5, h6, h7⟩ := h.spaceR
  unfold ptrV at h4
  clear h h3 h5 h6
  go_enter Try.func20, Try.ntmps20
  go_wp2_with (go_at_call 66; (with_reducible refine HB.out.mono ?_); rintro x wx ⟨rfl, hs⟩; have HS2 := Lib.hid hs; clear hs)
  go_ret
  exact ⟨rfl, HS2.out.up2⟩
theorem idxN_num {n : Int} {i : Nat} (hi : i < ps.length) (h : idxN ps n = i) : (ps[i].2.num : Int) = n := by
  unfold idxN at h
  have := (List.findIdx_eq hi).1 h
  simpa using this.1
theorem room_no (n : Int) (h : Sat w0 (SpaceC s d slot turn v ps * F) w) (hl : ps.length ≤ 1000000) (hi : idxN ps n = ps.length) :
    Calls Try.prog 41 #[.pointer (some ⟨s, 0, none⟩), .int .i64 n] w fun e w' => e = .returned (.tuple #[.int .i64 0, .int .i64 34]) ∧ w = w' := by
  have HF := find_any n h hl
  rw [hi, List.getElem?_eq_none (Nat.le_refl _)] at HF
  have HF := Lib.hid HF
  clear h hi
  go_enter Try.func41, Try.ntmps41
  go_wp2_with (go_at_call 69; (with_reducible refine HF.out.mono ?_); rintro x wx ⟨rfl, rfl⟩; unfold ptrO; dsimp only)
  go_ret2
  exact ⟨rfl, rfl⟩
theorem room_yes (n : Int) (h : Sat w0 (SpaceC s d slot turn v ps * F) w) (hl : ps.length ≤ 1000000) {i : Nat} (hi : i < ps.length) (he : idxN ps n = i) (hb : ps[i].2.blocks ≤ 65536) (hf : ps[i].2.frames.length ≤ ps[i].2.blocks) :
    Calls Try.prog 41 #[.pointer (some ⟨s, 0, none⟩), .int .i64 n] w fun e w' => e = .returned (.tuple #[.int .i64 ((ps[i].2.blocks : Int) - ps[i].2.frames.length), .int .i64 0]) ∧ Sat w0 (SpaceC s d slot turn v ps * F) w' := by
  have HF := find_any n h hl
  rw [he, List.getElem?_eq_getElem hi] at HF
  have HF := Lib.hid HF
  have HS := Lib.hid h
  obtain ⟨u, ks, hks, hg, A, c, rfl, hu⟩ := h.spaceF hi
  have g2 := hg.2.2.1; have g5 := hg.2.2.2.2.2
  have hkl : ks.length = ps[i].2.frames.length := by rw [← hks, txt, List.length_map]
  have hw : IntKind.i64.wrap ((ps[i].2.blocks : Int) - (ps[i].2.frames.length : Int)) = (ps[i].2.blocks : Int) - (ps[i].2.frames.length : Int) := by rw [IntKind.wrap_i64]; omega
  have HD := Lib.hid ((Sat.drewN (h := h)))
  rw [hkl] at g5
  clear h hg hu hks he hkl
  generalize ps[i].2.frames.length = m at *
  generalize ps[i].2.blocks = b at *
  go_enter Try.func41, Try.ntmps41
  go_wp2_with (go_at_call 69; (with_reducible refine HF.out.mono ?_); rintro x wx ⟨rfl, rfl⟩; unfold ptrO ptrV; dsimp only)
  go_region
  all_goals
    (try go_wp2_with fail)
    go_ret2
    exact ⟨rfl, by first | exact HS.out | exact HS.out.drew | exact HD.out _⟩
theorem slOf_oneX (k : Slc) : ∀ u ∈ [slOf k], u.oneCell' = true := by
  intro u hu
  rw [List.mem_singleton] at hu
  subst hu
  rfl
theorem frames_no (n : Int) (h : Sat w0 (SpaceC s d slot turn v ps * F) w) (hl : ps.length ≤ 1000000) (hi : idxN ps n = ps.length) :
    Calls Try.prog 30 #[.pointer (some ⟨s, 0, none⟩), .int .i64 n] w fun e w' => e = .returned (.tuple #[.slice none 0 0, .int .i64 34]) ∧ w = w' := by
  have HF := find_any n h hl
  rw [hi, List.getElem?_eq_none (Nat.le_refl _)] at HF
  have HF := Lib.hid HF
  clear h hi
  go_enter Try.func30, Try.ntmps30
  go_wp2_with (go_at_call 69; (with_reducible refine HF.out.mono ?_); rintro x wx ⟨rfl, rfl⟩; unfold ptrO; dsimp only)
  go_ret2
  exact ⟨rfl, rfl⟩
theorem rowsT : (Try.prog.info? 39).map (fun i => (i.zero, i.size, i.bytes)) = some (some (.slice none 0 0), 1, 24) := by kernel_rfl
set_option maxHeartbeats 1000000 in
theorem frames_yes (n : Int) (h : Sat w0 (SpaceC s d slot turn v ps * F) w) (hl : ps.length ≤ 1000000) {i : Nat} (hi : i < ps.length) (he : idxN ps n = i) (hf : ps[i].2.frames.length ≤ 65536) (hsm : ∀ p ∈ ps[i].2.frames, p.length ≤ 480) :
    Calls Try.prog 30 #[.pointer (some ⟨s, 0, none⟩), .int .i64 n] w fun e w' => ∃ u ts, e = .returned (.tuple #[u, .int .i64 0]) ∧ txt ts = ps[i].2.frames ∧ Sat w0 (Row 39 1 u ts.length (ts.map slOf) * (RoL ts * (SpaceC s d slot turn v ps * F))) w' := by
  obtain ⟨i0, hi0', hz0', hz1', hz2'⟩ := info_parts rowsT
  have hi0 := Lib.hid hi0'; have hz0 := Lib.hid hz0'; have hz1 := Lib.hid hz1'; have hz2 := Lib.hid hz2'
  have HF := find_any n h hl
  rw [he, List.getElem?_eq_getElem hi] at HF
  have HF := Lib.hid HF
  obtain ⟨v5, ks, hks, hfl⟩ := (h.of (space_at hi)).fl
  obtain ⟨A, c, rfl, hu1, hu2⟩ := hfl.up2.row_sl
  have g5 : w.cell? ⟨ps[i].1, 5, none⟩ = some (.slice A ks.length c) := hfl.cell 5
  have HS := Lib.hid hfl
  have hkl : ks.length = ps[i].2.frames.length := by rw [← hks, txt, List.length_map]
  have HKs := Lib.hid hks
  have HSm : Hid (∀ k ∈ ks, k.2.2.length ≤ 480) := fun k hk => hsm k.2.2 (by rw [← hks]; exact List.mem_map_of_mem hk)
  have hk16 : ks.length ≤ 65536 := by omega
  clear h hks he hkl hf hsm hi0' hz0' hz1' hz2' hfl
  obtain ⟨G, hG⟩ : ∃ G, G = Pt s 102 #[ptrV d, .int .i64 (slot : Int), .int .u64 (turn : Int), v] * (Row 104 1 v ps.length (ps.map fun x => ptrV x.1) * (FlsP (ps.eraseIdx i) * F)) := ⟨_, rfl⟩
  rw [← hG] at HS
  have HG := Lib.hid hG
  clear hG
  go_enter Try.func30, Try.ntmps30
  go_wp2_with (go_at_call 69; (with_reducible refine HF.out.mono ?_); rintro x wx ⟨rfl, rfl⟩; unfold ptrO ptrV; dsimp only)
  go_loopw [7, 9, 20] (fun ov _ iv wr => ∃ (k : Nat) (C : Option Addr) (cc : Nat) (ts : Rows_), k ≤ ks.length ∧ ov = .slice C k cc ∧ iv = .int .i64 (k : Int) ∧ Hid (ts.length = k ∧ txt ts = txt (ks.take k) ∧ Sat w0 (Row 39 1 (.slice C k cc) k (ts.map slOf) * (RoL ts * (Pt ps[i].1 110 (flC ps[i].2 (.slice A ks.length c)) * (Row 39 1 (.slice A ks.length c) ks.length (ks.map slOf) * (RoL ks * G))))) wr)) (fun _ _ iv _ => ks.length - (intOf iv).toNat)
  case atStart => exact ⟨0, none, 0, [], by omega, rfl, rfl, rfl, rfl, (HS.out.rolNil [] (by simp)).row_nil _ 1⟩
  case round =>
    obtain ⟨k, C, cc, ts, hk, rfl, rfl, HD⟩ := hrel
    by_cases hlt : k < ks.length
    · have hrd : RdL wr A ks := ⟨RdV.of_own HD.out.2.2.up4.row_own, fun x hx => HD.out.2.2.up5.rol hx⟩
      obtain ⟨⟨b, o, rfl, hc⟩, hx⟩ := hrd.get hlt
      have hk2 : (k : Int) < ks.length := by omega
      have hxl := HSm.out ks[k] (List.getElem_mem hlt)
      have HT : Hid (txt (ks.take (k + 1)) = txt (ks.take k) ++ [ks[k].2.2]) := by
        unfold Hid txt
        rw [List.take_succ_eq_append_getElem hlt, List.map_append]
        rfl
      have HCl := Lib.hid (clone_any ks[k].1 ks[k].2.1 ks[k].2.2 wr hx (by omega))
      clear hx hrd
      generalize ks[k] = x at *
      go_wp2_with (first
        | (go_at_call 72; (with_reducible refine HCl.out.mono ?_); rintro e w2 ⟨v2, rfl, h2, _, k2⟩; have hs := HD.out.2.2.gotRow k2 h2; obtain ⟨A2, c2, hv2, _⟩ := hs.row_sl; subst hv2; have HS2 := Lib.hid (hs.row_rol (l := x.2.2)); clear hs h2 k2)
        | (at_builtin; refine wpList_appS rfl (.tmp 24) (.tmp 27) 38 rfl 39 i0 _ 1 24 Try.underlying38 hi0.out hz0.out hz1.out hz2.out rfl (by decide) (.slice C k cc) k (ts.map slOf) rfl w0 _ (by exact (HS2.out.alloc' _).up2) (some ⟨w2.heap.size, 0, none⟩) 1 1 [slOf (A2, c2, x.2.2)] rfl (lit_rdv _ _ _) rfl (slOf_oneX _) (by unfold maxLen; omega) (by omega) ?_; intro A3 c3 w3 hs3; have HS3 := Lib.hid hs3; clear hs3))
      go_roundw
      · refine ⟨k + 1, A3, c3, ts ++ [(A2, c2, x.2.2)], by omega, rfl, by push_cast; rfl, ?_, ?_, ?_⟩
        · rw [List.length_append, HD.out.1]; rfl
        · rw [HT.out, ← HD.out.2.1, txt, List.map_append]; rfl
        · rw [List.map_append]
          exact HS3.out.of (by rw [← rol_app, List.map_singleton]; ac_rfl)
      · simp [intOf]; omega
    · obtain rfl : k = ks.length := by omega
      have hk2 : ¬ ((ks.length : Nat) : Int) < ks.length := by omega
      go_wp2_with fail
      go_ret2
      refine ⟨_, rfl, ts, ?_, ?_⟩
      · rw [HD.out.2.1, List.take_length]; exact HKs.out
      · rw [HD.out.1]
        have h9 := Sat.flI HKs.out (HD.out.2.2.of (show _ = Pt ps[i].1 110 (flC ps[i].2 (.slice A ks.length c)) * (Row 39 1 (.slice A ks.length c) ks.length (ks.map slOf) * (RoL ks * (Row 39 1 (.slice C ks.length cc) ks.length (ts.map slOf) * (RoL ts * G)))) by ac_rfl))
        refine h9.of ?_
        rw [HG.out, space_at hi]
        ac_rfl
end
end Go.Proofs.Ytjmapbhgjhlefaa
namespace Go.Proofs.Ytjmapbhgjhlefaa
open Go.RowKit
set_option linter.unusedVariables false
set_option maxRecDepth 100000

section
variable {P : Program} {l : List Oper} {Q : Exit → Act → World → Prop} {md : Region.Mode} {S : World → Prop}
/-- An operation that only reads. -/
theorem rgn_take {i : Nat} {oi : Oper} {v : Value} {fuel : Nat} {listed : Array Bool} {a : Act} {w : World} (hi : l[i]? = some oi)
    (hs : Region.noSelect l.toArray = true) (hf : Region.free md l.toArray listed i = true) (hr : (Region.ready md l.toArray listed).contains i = true)
    (hQ : ∀ c a w, Q (.panic c) (a.put oi.dst v) w → Q (.panic c) a w) (hy : Region.wanted oi (yielded l.toArray a.tmps) = true) (hy2 : ∀ w, S w → (execOp a.eval oi).run P w = .ok (.value v) w) (hS : S w)
    (h : wpAnyH P md l.toArray Q S fuel (listed.setIfInBounds i true) (a.put oi.dst v) w) : wpAnyH P md l.toArray Q S (fuel + 1) listed a w :=
  wpAnyH_take (by simpa using hi) hs hf hr hQ (.inl ⟨hy, hy2⟩) hS h
/-- One whose guard says no. -/
theorem rgn_skip {i : Nat} {oi : Oper} {fuel : Nat} {listed : Array Bool} {a : Act} {w : World} (hi : l[i]? = some oi)
    (hs : Region.noSelect l.toArray = true) (hf : Region.free md l.toArray listed i = true) (hr : (Region.ready md l.toArray listed).contains i = true)
    (hQ : ∀ c a w, Q (.panic c) (a.put oi.dst undef) w → Q (.panic c) a w) (hy : Region.wanted oi (yielded l.toArray a.tmps) = false) (hS : S w)
    (h : wpAnyH P md l.toArray Q S fuel (listed.setIfInBounds i true) (a.put oi.dst undef) w) : wpAnyH P md l.toArray Q S (fuel + 1) listed a w :=
  wpAnyH_take (by simpa using hi) hs hf hr hQ (.inr ⟨hy, rfl⟩) hS h
/-- One that changes the world. -/
theorem rgn_call {i : Nat} {oi : Oper} {fuel : Nat} {listed : Array Bool} {a : Act} {w : World} (hi : l[i]? = some oi) (hr : Region.ready md l.toArray listed = [i])
    (h : ∀ K : Act → World → Prop, Shut (∀ a w, S w → (S w → wpAnyH P md l.toArray Q S fuel (listed.setIfInBounds i true) a w) → K a w) → if Region.wanted oi (yielded l.toArray a.tmps) = true then Oper.wp P oi a w K Q else K (a.put oi.dst undef) w) :
    wpAnyH P md l.toArray Q S (fuel + 1) listed a w :=
  wpAnyH_ready hr (by simp) (AllReadyH.cons (by simpa using hi) h AllReadyH.nil)
/-- Either of two. -/
theorem rgn_both {i j : Nat} {oi oj : Oper} {fuel : Nat} {listed : Array Bool} {a : Act} {w : World} (hi : l[i]? = some oi) (hj : l[j]? = some oj) (hr : Region.ready md l.toArray listed = [i, j])
    (h : ∀ K : Act → World → Prop, Shut (∀ a w, S w → (S w → wpAnyH P md l.toArray Q S fuel (listed.setIfInBounds i true) a w) → K a w) → if Region.wanted oi (yielded l.toArray a.tmps) = true then Oper.wp P oi a w K Q else K (a.put oi.dst undef) w)
    (k : ∀ K : Act → World → Prop, Shut (∀ a w, S w → (S w → wpAnyH P md l.toArray Q S fuel (listed.setIfInBounds j true) a w) → K a w) → if Region.wanted oj (yielded l.toArray a.tmps) = true then Oper.wp P oj a w K Q else K (a.put oj.dst undef) w) :
    wpAnyH P md l.toArray Q S (fuel + 1) listed a w :=
  wpAnyH_ready hr (by simp) (AllReadyH.cons (by simpa using hi) h (AllReadyH.cons (by simpa using hj) k AllReadyH.nil))
/-- Any of 3. -/
theorem rgn_three {i j k : Nat} {oi oj ok : Oper} {fuel : Nat} {listed : Array Bool} {a : Act} {w : World} (hi0 : l[i]? = some oi) (hj0 : l[j]? = some oj) (hk0 : l[k]? = some ok) (hr : Region.ready md l.toArray listed = [i, j, k])
    (hi : ∀ K : Act → World → Prop, Shut (∀ a w, S w → (S w → wpAnyH P md l.toArray Q S fuel (listed.setIfInBounds i true) a w) → K a w) → if Region.wanted oi (yielded l.toArray a.tmps) = true then Oper.wp P oi a w K Q else K (a.put oi.dst undef) w)
    (hj : ∀ K : Act → World → Prop, Shut (∀ a w, S w → (S w → wpAnyH P md l.toArray Q S fuel (listed.setIfInBounds j true) a w) → K a w) → if Region.wanted oj (yielded l.toArray a.tmps) = true then Oper.wp P oj a w K Q else K (a.put oj.dst undef) w)
    (hk : ∀ K : Act → World → Prop, Shut (∀ a w, S w → (S w → wpAnyH P md l.toArray Q S fuel (listed.setIfInBounds k true) a w) → K a w) → if Region.wanted ok (yielded l.toArray a.tmps) = true then Oper.wp P ok a w K Q else K (a.put ok.dst undef) w) :
    wpAnyH P md l.toArray Q S (fuel + 1) listed a w :=
  wpAnyH_ready hr (by simp) (AllReadyH.cons (by simpa using hi0) hi (AllReadyH.cons (by simpa using hj0) hj (AllReadyH.cons (by simpa using hk0) hk AllReadyH.nil)))
/-- Any of 4. -/
theorem rgn_four {i j k m : Nat} {oi oj ok om : Oper} {fuel : Nat} {listed : Array Bool} {a : Act} {w : World} (hi0 : l[i]? = some oi) (hj0 : l[j]? = some oj) (hk0 : l[k]? = some ok) (hm0 : l[m]? = some om) (hr : Region.ready md l.toArray listed = [i, j, k, m])
    (hi : ∀ K : Act → World → Prop, Shut (∀ a w, S w → (S w → wpAnyH P md l.toArray Q S fuel (listed.setIfInBounds i true) a w) → K a w) → if Region.wanted oi (yielded l.toArray a.tmps) = true then Oper.wp P oi a w K Q else K (a.put oi.dst undef) w)
    (hj : ∀ K : Act → World → Prop, Shut (∀ a w, S w → (S w → wpAnyH P md l.toArray Q S fuel (listed.setIfInBounds j true) a w) → K a w) → if Region.wanted oj (yielded l.toArray a.tmps) = true then Oper.wp P oj a w K Q else K (a.put oj.dst undef) w)
    (hk : ∀ K : Act → World → Prop, Shut (∀ a w, S w → (S w → wpAnyH P md l.toArray Q S fuel (listed.setIfInBounds k true) a w) → K a w) → if Region.wanted ok (yielded l.toArray a.tmps) = true then Oper.wp P ok a w K Q else K (a.put ok.dst undef) w)
    (hm : ∀ K : Act → World → Prop, Shut (∀ a w, S w → (S w → wpAnyH P md l.toArray Q S fuel (listed.setIfInBounds m true) a w) → K a w) → if Region.wanted om (yielded l.toArray a.tmps) = true then Oper.wp P om a w K Q else K (a.put om.dst undef) w) :
    wpAnyH P md l.toArray Q S (fuel + 1) listed a w :=
  wpAnyH_ready hr (by simp) (AllReadyH.cons (by simpa using hi0) hi (AllReadyH.cons (by simpa using hj0) hj (AllReadyH.cons (by simpa using hk0) hk (AllReadyH.cons (by simpa using hm0) hm AllReadyH.nil))))
end
end Go.Proofs.Ytjmapbhgjhlefaa
namespace Go.Proofs.Ytjmapbhgjhlefaa
open Go.RowKit
set_option linter.unusedVariables false
set_option maxRecDepth 100000

section
variable {w0 w : World} {F : SP} {v : Value} {f : Fl}
theorem oputS (x n : Nat) (z : Int) (hz : z = n) (hx : x < 18446744073709551616) (h0 : 1 ≤ n) (hn : n ≤ 8) (w0 w : World) (F : SP) (h : Sat w0 F w) (P : List UInt8) (hP : putB x n = P) :
    Calls Try.prog 92 #[.int .u64 (x : Int), .int .i64 z] w fun e w' => ∃ A c, e = .returned (.slice A P.length c) ∧ Sat w0 (Row 5 1 (.slice A P.length c) P.length (P.map bv) * F) w' := by
  subst hz; subst hP
  exact (oput_any x n hx h0 hn w0 w F h).mono fun _ _ ⟨A, c, e, _, _, hs⟩ => ⟨A, c, e, hs⟩
/-- Join, its rows told. -/
theorem joinS (A : Option Addr) (n c : Nat) (ks : Rows_) (hn : ks.length = n) (w0 w : World) (F : SP) (h : Sat w0 F w) (hr : RdL w A ks) (l : List UInt8) (hl : (txt ks).flatten = l) (htot : l.length ≤ 140737488355328) (hks : n ≤ 1000000) :
    Calls Try.prog 80 #[.slice A n c] w fun e w' => ∃ B d, e = .returned (.slice B l.length d) ∧ Sat w0 (Row 5 1 (.slice B l.length d) l.length (l.map bv) * F) w' := by
  subst hn; subst hl
  refine (join_any A c ks w hr htot (by omega)).mono ?_
  rintro e w' ⟨v2, rfl, h2, k2⟩
  have hs := h.gotRow k2 h2
  obtain ⟨B, d, rfl, _⟩ := hs.row_sl
  exact ⟨B, d, rfl, hs⟩
theorem pad_map (l : List UInt8) : (padB l).map bv = l.map bv ++ nulls (512 - l.length) := by
  unfold padB nulls
  rw [List.map_append, List.map_replicate]
  rfl
set_option maxHeartbeats 2000000 in
theorem frame_any (q : Nat) (A : Option Addr) (c : Nat) (p : List UInt8) (h : Sat w0 (Pt q 110 (flC f v) * F) w) (hp : ∀ W, Sat w0 F W → Rd W A p) (hl : p.length ≤ 480) (hb : f.birth < 18446744073709551616) (hli : f.life < 18446744073709551616) :
    Calls Try.prog 71 #[.pointer (some ⟨q, 0, none⟩), .slice A p.length c] w fun e w' => ∃ B d, e = .returned (.slice B 512 d) ∧ Sat w0 (Row 5 1 (.slice B 512 d) 512 ((frameB f.birth f.life p).map bv) * (Pt q 110 (flC f v) * F)) w' := by
  obtain ⟨P1, hP1⟩ : ∃ P, putB f.birth 8 = P := ⟨_, rfl⟩
  obtain ⟨P2, hP2⟩ : ∃ P, putB f.life 8 = P := ⟨_, rfl⟩
  obtain ⟨P3, hP3⟩ : ∃ P, putB p.length 2 = P := ⟨_, rfl⟩
  have l1 : P1.length = 8 := by rw [← hP1, putB_len]
  have l2 : P2.length = 8 := by rw [← hP2, putB_len]
  have l3 : P3.length = 2 := by rw [← hP3, putB_len]
  obtain ⟨H, hH⟩ : ∃ H, H = P1 ++ (P2 ++ (P3 ++ p)) := ⟨_, rfl⟩
  have hHl : H.length = 18 + p.length := by rw [hH]; simp only [List.length_append, l1, l2, l3]; omega
  have HFr : Hid ((frameB f.birth f.life p).map bv = H.map bv ++ nulls (512 - H.length)) := by
    unfold Hid frameB
    rw [hP1, hP2, hP3, ← hH, pad_map]
  have hb0 : Hid (f.birth < 18446744073709551616) := hb
  have hli0 : Hid (f.life < 18446744073709551616) := hli
  have hwp : IntKind.u64.wrap (p.length : Int) = p.length := by rw [IntKind.wrap_u64]; omega
  have hH512 : H.length ≤ 498 := by omega
  have hsub : (512 : Int) - (H.length : Int) = ((512 - H.length : Nat) : Int) := by omega
  have hH0 : 0 < H.length := by omega
  have HH := Lib.hid hH; have HP1 := Lib.hid hP1; have HP2 := Lib.hid hP2; have HP3 := Lib.hid hP3
  have HS := Lib.hid h.drew
  have HR := Lib.hid hp
  have HC : Hid (Chg No w w.drew) := (Chg.refl No w).drew
  clear h hP1 hP2 hP3 l1 l2 l3 hH hHl hp hb hli
  go_enter Try.func71, Try.ntmps71
  go_upto_region 1 with fail
  refine wp_region_held_drew (S := fun w' => w'.cell? ⟨q, 3, none⟩ = some (.int .u64 (f.birth : Int)) ∧ w'.cell? ⟨q, 4, none⟩ = some (.int .u64 (f.life : Int))) (by kernel_rfl) ⟨HS.out.cell 3, HS.out.cell 4⟩ ?_
  intro hS0
  refine rgn_take (i := 0) (v := ?rv1) rfl (by kernel_rfl) (by kernel_rfl) (by kernel_rfl) (fun _ _ _ h => h) (by rfl) ?rh1 (by assumption) ?rr1
  case rh1 => (intro w hSw; (try dsimp only at hSw); go_simp; try with_reducible rfl)
  simp only [Act.put, List.setIfInBounds_toArray, List.set_cons_zero, List.set_cons_succ]
  refine rgn_take (i := 1) (v := ?rv2) rfl (by kernel_rfl) (by kernel_rfl) (by kernel_rfl) (fun _ _ _ h => h) (by rfl) ?rh2 (by assumption) ?rr2
  case rh2 => (intro w hSw; (try dsimp only at hSw); go_simp; try with_reducible rfl)
  simp only [Act.put, List.setIfInBounds_toArray, List.set_cons_zero, List.set_cons_succ]
  refine rgn_take (i := 2) (v := ?rv3) rfl (by kernel_rfl) (by kernel_rfl) (by kernel_rfl) (fun _ _ _ h => h) (by rfl) ?rh3 (by assumption) ?rr3
  case rh3 => (intro w hSw; (try dsimp only at hSw); go_simp; try with_reducible rfl)
  simp only [Act.put, List.setIfInBounds_toArray, List.set_cons_zero, List.set_cons_succ]
  refine rgn_take (i := 3) (v := ?rv4) rfl (by kernel_rfl) (by kernel_rfl) (by kernel_rfl) (fun _ _ _ h => h) (by rfl) ?rh4 (by assumption) ?rr4
  case rh4 => (intro w hSw; (try dsimp only at hSw); go_simp; try with_reducible rfl)
  simp only [Act.put, List.setIfInBounds_toArray, List.set_cons_zero, List.set_cons_succ]
  refine rgn_take (i := 5) (v := ?rv5) rfl (by kernel_rfl) (by kernel_rfl) (by kernel_rfl) (fun _ _ _ h => h) (by rfl) ?rh5 (by assumption) ?rr5
  case rh5 => (intro w hSw; (try dsimp only at hSw); go_simp; try with_reducible rfl)
  simp only [Act.put, List.setIfInBounds_toArray, List.set_cons_zero, List.set_cons_succ]
  refine rgn_take (i := 6) (v := ?rv6) rfl (by kernel_rfl) (by kernel_rfl) (by kernel_rfl) (fun _ _ _ h => h) (by rfl) ?rh6 (by assumption) ?rr6
  case rh6 => (intro w hSw; (try dsimp only at hSw); go_simp; try with_reducible rfl)
  simp only [Act.put, List.setIfInBounds_toArray, List.set_cons_zero, List.set_cons_succ]
  refine rgn_take (i := 7) (v := ?rv7) rfl (by kernel_rfl) (by kernel_rfl) (by kernel_rfl) (fun _ _ _ h => h) (by rfl) ?rh7 (by assumption) ?rr7
  case rh7 => (intro w hSw; (try dsimp only at hSw); go_simp; try with_reducible rfl)
  simp only [Act.put, List.setIfInBounds_toArray, List.set_cons_zero, List.set_cons_succ]
  refine rgn_take (i := 8) (v := ?rv8) rfl (by kernel_rfl) (by kernel_rfl) (by kernel_rfl) (fun _ _ _ h => h) (by rfl) ?rh8 (by assumption) ?rr8
  case rh8 => (intro w hSw; (try dsimp only at hSw); go_simp; try with_reducible rfl)
  simp only [Act.put, List.setIfInBounds_toArray, List.set_cons_zero, List.set_cons_succ]
  refine rgn_take (i := 10) (v := ?rv9) rfl (by kernel_rfl) (by kernel_rfl) (by kernel_rfl) (fun _ _ _ h => h) (by rfl) ?rh9 (by assumption) ?rr9
  case rh9 => (intro w hSw; (try dsimp only at hSw); go_simp; try with_reducible rfl)
  simp only [Act.put, List.setIfInBounds_toArray, List.set_cons_zero, List.set_cons_succ]
  refine rgn_take (i := 11) (v := ?rv10) rfl (by kernel_rfl) (by kernel_rfl) (by kernel_rfl) (fun _ _ _ h => h) (by rfl) ?rh10 (by assumption) ?rr10
  case rh10 => (intro w hSw; (try dsimp only at hSw); go_simp; try with_reducible rfl)
  simp only [Act.put, List.setIfInBounds_toArray, List.set_cons_zero, List.set_cons_succ]
  refine rgn_take (i := 12) (v := ?rv11) rfl (by kernel_rfl) (by kernel_rfl) (by kernel_rfl) (fun _ _ _ h => h) (by rfl) ?rh11 (by assumption) ?rr11
  case rh11 => (intro w hSw; (try dsimp only at hSw); go_simp; try with_reducible rfl)
  simp only [Act.put, List.setIfInBounds_toArray, List.set_cons_zero, List.set_cons_succ]
  refine rgn_take (i := 14) (v := ?rv12) rfl (by kernel_rfl) (by kernel_rfl) (by kernel_rfl) (fun _ _ _ h => h) (by rfl) ?rh12 (by assumption) ?rr12
  case rh12 => (intro w hSw; (try dsimp only at hSw); go_simp; try with_reducible rfl)
  simp only [Act.put, List.setIfInBounds_toArray, List.set_cons_zero, List.set_cons_succ]
  refine rgn_call (i := 4) rfl (by kernel_rfl) (fun K hK => ?_)
  go_simp
  go_at_call 92; refine (oputS f.birth 8 8 rfl hb0.out (by omega) (by omega) w0 w.drew _ HS.out P1 HP1.out).mono ?_; rintro y w4 ⟨A4, c4, rfl, hs⟩; replace HS := Lib.hid hs; clear hs
  refine hK.out _ _ ⟨HS.out.up2.cell 3, HS.out.up2.cell 4⟩ (fun hS0 => ?_)
  clear hK K
  refine rgn_call (i := 9) rfl (by kernel_rfl) (fun K hK => ?_)
  go_simp
  go_at_call 92; refine (oputS f.life 8 8 rfl hli0.out (by omega) (by omega) w0 w4 _ HS.out P2 HP2.out).mono ?_; rintro y w9 ⟨A9, c9, rfl, hs⟩; replace HS := Lib.hid hs; clear hs
  refine hK.out _ _ ⟨HS.out.up3.cell 3, HS.out.up3.cell 4⟩ (fun hS0 => ?_)
  clear hK K
  refine rgn_call (i := 13) rfl (by kernel_rfl) (fun K hK => ?_)
  go_simp
  go_at_call 92; refine (oputS p.length 2 2 rfl (by omega) (by omega) (by omega) w0 w9 _ HS.out P3 HP3.out).mono ?_; rintro y w13 ⟨A13, c13, rfl, hs⟩; replace HS := Lib.hid hs; clear hs
  refine hK.out _ _ ⟨HS.out.up4.cell 3, HS.out.up4.cell 4⟩ (fun hS0 => ?_)
  clear hK K
  refine rgn_call (i := 15) rfl (by kernel_rfl) (fun K hK => ?_)
  go_simp
  have hs := HS.out.allocPt 39 #[.slice A4 P1.length c4, .slice A9 P2.length c9, .slice A13 P3.length c13, .slice A p.length c]; revert hs; generalize World.alloc w13 _ = w15; generalize w13.heap.size = B15; intro hs; replace HS := Lib.hid hs; clear hs
  refine hK.out _ _ ⟨HS.out.up5.cell 3, HS.out.up5.cell 4⟩ (fun hS0 => ?_)
  clear hK K
  refine rgn_call (i := 16) rfl (by kernel_rfl) (fun K hK => ?_)
  go_simp
  go_at_call 80; refine (joinS (some ⟨B15, 0, none⟩) 4 4 [(A4, c4, P1), (A9, c9, P2), (A13, c13, P3), (A, c, p)] rfl w0 w15 _ HS.out ⟨RdV.of_at HS.out.at (fun j hj => by simp at hj; have : j = 0 ∨ j = 1 ∨ j = 2 ∨ j = 3 := (by omega); rcases this with rfl | rfl | rfl | rfl <;> rfl), fun k hk => by simp at hk; rcases hk with rfl | rfl | rfl | rfl; exact RdV.of_own HS.out.up4.row_own; exact RdV.of_own HS.out.up3.row_own; exact RdV.of_own HS.out.up2.row_own; exact HR.out _ HS.out.right.right.right.right.right⟩ H (by rw [HH.out]; simp [txt]) (by omega) (by omega)).mono ?_; rintro y w16 ⟨A16, c16, rfl, hs⟩; replace HS := Lib.hid hs; clear hs
  refine hK.out _ _ ⟨HS.out.up6.cell 3, HS.out.up6.cell 4⟩ (fun hS0 => ?_)
  clear hK K
  refine rgn_take (i := 17) (v := ?rv18) rfl (by kernel_rfl) (by kernel_rfl) (by kernel_rfl) (fun _ _ _ h => h) (by rfl) ?rh18 (by assumption) ?rr18
  case rh18 => (intro w hSw; (try dsimp only at hSw); go_simp; try with_reducible rfl)
  simp only [Act.put, List.setIfInBounds_toArray, List.set_cons_zero, List.set_cons_succ]
  refine wpAnyH_done (by kernel_rfl) ?_ _
  go_upto_region 2 with fail
  obtain ⟨g, rfl, _⟩ := HS.out.row_at hH0
  obtain ⟨j0, hj, hy0, hy1, hy2⟩ := info_parts info_u8o
  go_wp2_with (at_builtin; refine wpList_appZ rfl (.tmp 23) (.tmp 26) 39 3 5 j0 rfl Try.underlying39 Try.underlying3 hj hy0 hy1 hy2 g H.length c16 (512 - H.length) (H.map bv) rfl rfl w0 _ HS.out (by omega) (by omega) ?_; intro A5 c5 w5 hs; replace HS := Lib.hid hs; clear hs)
  go_ret
  have e5 : H.length + (512 - H.length) = 512 := by omega
  have h9 := HS.out
  rw [e5, ← HFr.out] at h9
  exact ⟨A5, c5, by rw [e5]; rfl, h9.drop2.drop2.drop2.drop2⟩
end
end Go.Proofs.Ytjmapbhgjhlefaa
namespace Go.Proofs.Ytjmapbhgjhlefaa
open Go.RowKit
set_option linter.unusedVariables false
set_option maxRecDepth 100000

section
variable {w0 w : World} {F : SP} {s d slot turn : Nat} {v : Value} {ps : List (Nat × Fl)} {D : Dk}
theorem space_set {i : Nat} (h : i < ps.length) (x : Nat × Fl) (hx : x.1 = ps[i].1) : SpaceC s d slot turn v (ps.set i x) * F = FlP x.1 x.2 * (Pt s 102 #[ptrV d, .int .i64 (slot : Int), .int .u64 (turn : Int), v] * (Row 104 1 v ps.length (ps.map fun x => ptrV x.1) * (FlsP (ps.eraseIdx i) * F))) := by
  have e : (ps.set i x).map (fun y => ptrV y.1) = ps.map fun y => ptrV y.1 := by
    apply List.ext_getElem?
    intro j
    rw [List.getElem?_map, List.getElem?_map, List.getElem?_set]
    by_cases ej : i = j
    · subst ej
      rw [if_pos rfl, if_pos h, List.getElem?_eq_getElem h, Option.map_some, Option.map_some, hx]
    · rw [if_neg ej]
  rw [space_d, fls_set h, List.length_set, e]
  ac_rfl
theorem append_none (n : Int) (A : Option Addr) (c m : Nat) (h : Sat w0 (SpaceC s d slot turn v ps * F) w) (hl : ps.length ≤ 1000000) (hi : idxN ps n = ps.length) :
    Calls Try.prog 29 #[.pointer (some ⟨s, 0, none⟩), .int .i64 n, .slice A m c] w fun e w' => e = .returned (.int .i64 34) ∧ w = w' := by
  have HF := find_any n h hl
  rw [hi, List.getElem?_eq_none (Nat.le_refl _)] at HF
  have HF := Lib.hid HF
  clear h hi
  go_enter Try.func29, Try.ntmps29
  go_wp2_with (go_at_call 69; (with_reducible refine HF.out.mono ?_); rintro x wx ⟨rfl, rfl⟩; unfold ptrO; dsimp only)
  go_ret
  exact ⟨rfl, rfl⟩
theorem append_long (n : Int) (A : Option Addr) (c m : Nat) (h : Sat w0 (SpaceC s d slot turn v ps * F) w) (hl : ps.length ≤ 1000000) {i : Nat} (hi : i < ps.length) (he : idxN ps n = i) (hm : 480 < m) :
    Calls Try.prog 29 #[.pointer (some ⟨s, 0, none⟩), .int .i64 n, .slice A m c] w fun e w' => e = .returned (.int .i64 35) ∧ w = w' := by
  have HF := find_any n h hl
  rw [he, List.getElem?_eq_getElem hi] at HF
  have HF := Lib.hid HF
  have hm2 : (480 : Int) < m := by omega
  clear h he hm
  go_enter Try.func29, Try.ntmps29
  go_wp2_with (go_at_call 69; (with_reducible refine HF.out.mono ?_); rintro x wx ⟨rfl, rfl⟩; unfold ptrO ptrV; dsimp only)
  go_ret
  exact ⟨rfl, rfl⟩
theorem append_end (n : Int) (A : Option Addr) (c m : Nat) (h : Sat w0 (SpaceC s d slot turn v ps * F) w) (hl : ps.length ≤ 1000000) {i : Nat} (hi : i < ps.length) (he : idxN ps n = i) (hm : m ≤ 480) (hf : ps[i].2.frames.length = ps[i].2.blocks) :
    Calls Try.prog 29 #[.pointer (some ⟨s, 0, none⟩), .int .i64 n, .slice A m c] w fun e w' => e = .returned (.int .i64 36) ∧ Sat w0 (SpaceC s d slot turn v ps * F) w' := by
  have HF := find_any n h hl
  rw [he, List.getElem?_eq_getElem hi] at HF
  have HF := Lib.hid HF
  have HS := Lib.hid h
  obtain ⟨u, ks, hks, hg, B, c2, rfl, hu⟩ := h.spaceF hi
  have g2 := hg.2.2.1; have g5 := hg.2.2.2.2.2
  have hkl : ks.length = ps[i].2.frames.length := by rw [← hks, txt, List.length_map]
  rw [hkl, hf] at g5
  have hm2 : ¬ (480 : Int) < m := by omega
  clear h hg hu hks he hkl hf hm
  generalize ps[i].2.blocks = b at *
  go_enter Try.func29, Try.ntmps29
  go_upto_region 6 with (go_at_call 69; (with_reducible refine HF.out.mono ?_); rintro x wx ⟨rfl, rfl⟩; unfold ptrO ptrV; dsimp only)
  go_region
  all_goals
    go_wp2_with fail
    go_ret
    exact ⟨rfl, by first | exact HS.out | exact HS.out.drew⟩
theorem Sat.up8 {A B C D' E G H I : SP} (h : Sat w0 (A * (B * (C * (D' * (E * (G * (H * (I * F)))))))) w) : Sat w0 (I * (A * (B * (C * (D' * (E * (G * (H * F)))))))) w := h.of (by ac_rfl)
theorem Sat.dn8 {A B C D' E G H I : SP} (h : Sat w0 (I * (A * (B * (C * (D' * (E * (G * (H * F)))))))) w) : Sat w0 (A * (B * (C * (D' * (E * (G * (H * (I * F)))))))) w := h.of (by ac_rfl)
/-- What an Append that is taken leaves. -/
def AppX (w0 : World) (F : SP) (s d slot turn : Nat) (v : Value) (ps : List (Nat × Fl)) (i : Nat) (hi : i < ps.length) (p : List UInt8) (r : Dk × Int) (e : Ending) (w' : World) : Prop :=
  e = .returned (.int .i64 r.2) ∧ Sat w0 (SpaceC s d slot turn v (if r.2 = 0 then ps.set i (ps[i].1, { ps[i].2 with frames := ps[i].2.frames ++ [p] }) else ps) * (Disk d r.1 * F)) w'
set_option maxHeartbeats 4000000 in
theorem append_write (n : Int) (A : Option Addr) (c : Nat) (p : List UInt8) (h : Sat w0 (SpaceC s d slot turn v ps * (Disk d D * F)) w) (hp : ∀ W, Sat w0 F W → Rd W A p) (hl : ps.length ≤ 1000000) {i : Nat} (hi : i < ps.length) (he : idxN ps n = i) (hm : p.length ≤ 480) (hf : ps[i].2.frames.length < ps[i].2.blocks) (hfb : ps[i].2.first + ps[i].2.blocks ≤ 65536)
    (hb : ps[i].2.birth < 18446744073709551616) (hli : ps[i].2.life < 18446744073709551616) (hw1 : D.writes ≤ 1000000000) (hw2 : D.pend.length ≤ 1000000000) (hw3 : D.armed ≤ 9223372036854775807) :
    Calls Try.prog 29 #[.pointer (some ⟨s, 0, none⟩), .int .i64 n, .slice A p.length c] w (AppX w0 F s d slot turn v ps i hi p (D.write ((ps[i].2.first + ps[i].2.frames.length : Nat) : Int) (frameB ps[i].2.birth ps[i].2.life p))) := by
  obtain ⟨i0, hi0', hz0', hz1', hz2'⟩ := info_parts rowsT
  have hi0 := Lib.hid hi0'; have hz0 := Lib.hid hz0'; have hz1 := Lib.hid hz1'; have hz2 := Lib.hid hz2'
  obtain ⟨q, hq0⟩ : ∃ q, q = ps[i].1 := ⟨_, rfl⟩
  have HF : Hid (Calls Try.prog 69 #[.pointer (some ⟨s, 0, none⟩), .int .i64 n] w fun e w' => e = .returned (.pointer (some ⟨q, 0, none⟩)) ∧ w = w') := (find_any n h hl).mono fun e w' ⟨h1, h2⟩ => ⟨by rw [h1, he, List.getElem?_eq_getElem hi, hq0]; rfl, h2⟩
  obtain ⟨v5, ks, hks, hfl⟩ := (h.of (space_at hi)).fl
  obtain ⟨B, bc, rfl, hu1, hu2⟩ := hfl.up2.row_sl
  have hkl : ks.length = ps[i].2.frames.length := by rw [← hks, txt, List.length_map]
  obtain ⟨N, hN⟩ : ∃ N, N = ps[i].2.frames.length := ⟨_, rfl⟩
  have hkN : ks.length = N := hkl.trans hN.symm
  obtain ⟨f, hf0⟩ : ∃ f, f = ps[i].2 := ⟨_, rfl⟩
  obtain ⟨bl, hbl⟩ : ∃ b, b = frameB f.birth f.life p := ⟨_, rfl⟩
  have hbl5 : bl.length = 512 := by rw [hbl]; exact frame_len hm
  obtain ⟨J, hJ⟩ : ∃ J, J = ps[i].2.first + ps[i].2.frames.length := ⟨_, rfl⟩
  have hJn : (ps[i].2.first : Int) + (ks.length : Int) = (J : Int) := by omega
  have hwJ : IntKind.i64.wrap (J : Int) = J := by rw [IntKind.wrap_i64]; omega
  have hJs : J ≤ 65536 := by omega
  have hk16 : ks.length ≤ 65536 := by omega
  obtain ⟨R, hR⟩ : ∃ R, R = D.write (J : Int) bl := ⟨_, rfl⟩
  rw [← hJ, ← hf0, ← hbl, ← hR]
  rw [← hf0] at hb hli hJn hf
  rw [← hf0, ← hq0] at hfl
  obtain ⟨G, hG⟩ : ∃ G, G = Pt s 102 #[ptrV d, .int .i64 (slot : Int), .int .u64 (turn : Int), v] * (Row 104 1 v ps.length (ps.map fun x => ptrV x.1) * FlsP (ps.eraseIdx i)) := ⟨_, rfl⟩
  have HS : Hid (Sat w0 (Pt q 110 (flC f (.slice B ks.length bc)) * (Row 39 1 (.slice B ks.length bc) ks.length (ks.map slOf) * (RoL ks * (Pt s 102 #[ptrV d, .int .i64 (slot : Int), .int .u64 (turn : Int), v] * (Row 104 1 v ps.length (ps.map fun x => ptrV x.1) * (FlsP (ps.eraseIdx i) * (Disk d D * F))))))) w) := hfl
  have HHp := Lib.hid hp
  have HKs := Lib.hid hks; have Hf0 := Lib.hid hf0; have Hq0 := Lib.hid hq0
  have HBl := Lib.hid hbl; have HR := Lib.hid hR; have HG := Lib.hid hG
  have hb0 : Hid (f.birth < 18446744073709551616) := hb
  have hli0 : Hid (f.life < 18446744073709551616) := hli
  have HW : Hid (∀ (X : SP) (W : World) (A : Option Addr) (c : Nat), Sat w0 (Disk d D * X) W → Rd W A bl → Calls Try.prog 70 #[.pointer (some ⟨d, 0, none⟩), .int .i64 (J : Int), .slice A 512 c] W fun e w' => e = .returned (.int .i64 R.2) ∧ Sat w0 (Disk d R.1 * X) w') := fun X W A c hX hA => by
    have h9 := write_any d D (J : Int) A c bl w0 W X hX hA (by omega) hw1 hw2 hw3
    unfold WriteD at h9
    rw [hbl5, ← hR] at h9
    exact h9
  have hnf : ¬ ((ks.length : Nat) : Int) = (f.blocks : Int) := by rw [← hf0] at hkl; omega
  have hm2 : ¬ (480 : Int) < p.length := by omega
  clear h hfl hks hf0 hq0 hbl hR hG hb hli hp hkl hi0' hz0' hz1' hz2' he hw1 hw2 hw3 hN hkN hJ hf hfb hbl5
  have y0 : w.cell? ⟨s, 0, none⟩ = some (.pointer (some ⟨d, 0, none⟩)) := HS.out.up4.cell 0
  have y1 : w.cell? ⟨q, 1, none⟩ = some (.int .i64 (f.first : Int)) := HS.out.cell 1
  have y2 : w.cell? ⟨q, 2, none⟩ = some (.int .i64 (f.blocks : Int)) := HS.out.cell 2
  have y5 : w.cell? ⟨q, 5, none⟩ = some (.slice B ks.length bc) := HS.out.cell 5
  go_enter Try.func29, Try.ntmps29
  go_upto_region 6 with (go_at_call 69; (with_reducible refine HF.out.mono ?_); rintro x wx ⟨rfl, rfl⟩)
  go_region
  go_upto_region 8 with fail
  replace HS := Lib.hid HS.out.drew.drew
  clear y0 y1 y2 y5
  refine wp_region_held_drew (S := fun w' => w'.cell? ⟨s, 0, none⟩ = some (.pointer (some ⟨d, 0, none⟩)) ∧ w'.cell? ⟨q, 1, none⟩ = some (.int .i64 (f.first : Int)) ∧ w'.cell? ⟨q, 5, none⟩ = some (.slice B ks.length bc)) (by kernel_rfl) ⟨HS.out.up4.cell 0, HS.out.cell 1, HS.out.cell 5⟩ ?_
  intro hS0
  refine rgn_take (i := 0) (v := ?rv1) rfl (by kernel_rfl) (by kernel_rfl) (by kernel_rfl) (fun _ _ _ h => h) (by rfl) ?rh1 (by assumption) ?rr1
  case rh1 => (intro w hSw; (try dsimp only at hSw); go_simp; try with_reducible rfl)
  simp only [Act.put, List.setIfInBounds_toArray, List.set_cons_zero, List.set_cons_succ]
  refine rgn_take (i := 1) (v := ?rv2) rfl (by kernel_rfl) (by kernel_rfl) (by kernel_rfl) (fun _ _ _ h => h) (by rfl) ?rh2 (by assumption) ?rr2
  case rh2 => (intro w hSw; (try dsimp only at hSw); go_simp; try with_reducible rfl)
  simp only [Act.put, List.setIfInBounds_toArray, List.set_cons_zero, List.set_cons_succ]
  refine rgn_take (i := 2) (v := ?rv3) rfl (by kernel_rfl) (by kernel_rfl) (by kernel_rfl) (fun _ _ _ h => h) (by rfl) ?rh3 (by assumption) ?rr3
  case rh3 => (intro w hSw; (try dsimp only at hSw); go_simp; try with_reducible rfl)
  simp only [Act.put, List.setIfInBounds_toArray, List.set_cons_zero, List.set_cons_succ]
  refine rgn_take (i := 3) (v := ?rv4) rfl (by kernel_rfl) (by kernel_rfl) (by kernel_rfl) (fun _ _ _ h => h) (by rfl) ?rh4 (by assumption) ?rr4
  case rh4 => (intro w hSw; (try dsimp only at hSw); go_simp; try with_reducible rfl)
  simp only [Act.put, List.setIfInBounds_toArray, List.set_cons_zero, List.set_cons_succ]
  refine rgn_take (i := 4) (v := ?rv5) rfl (by kernel_rfl) (by kernel_rfl) (by kernel_rfl) (fun _ _ _ h => h) (by rfl) ?rh5 (by assumption) ?rr5
  case rh5 => (intro w hSw; (try dsimp only at hSw); go_simp; try with_reducible rfl)
  simp only [Act.put, List.setIfInBounds_toArray, List.set_cons_zero, List.set_cons_succ]
  refine rgn_take (i := 5) (v := ?rv6) rfl (by kernel_rfl) (by kernel_rfl) (by kernel_rfl) (fun _ _ _ h => h) (by rfl) ?rh6 (by assumption) ?rr6
  case rh6 => (intro w hSw; (try dsimp only at hSw); go_simp; try with_reducible rfl)
  simp only [Act.put, List.setIfInBounds_toArray, List.set_cons_zero, List.set_cons_succ]
  refine rgn_take (i := 6) (v := ?rv7) rfl (by kernel_rfl) (by kernel_rfl) (by kernel_rfl) (fun _ _ _ h => h) (by rfl) ?rh7 (by assumption) ?rr7
  case rh7 => (intro w hSw; (try dsimp only at hSw); go_simp; try with_reducible rfl)
  simp only [Act.put, List.setIfInBounds_toArray, List.set_cons_zero, List.set_cons_succ]
  refine rgn_take (i := 7) (v := ?rv8) rfl (by kernel_rfl) (by kernel_rfl) (by kernel_rfl) (fun _ _ _ h => h) (by rfl) ?rh8 (by assumption) ?rr8
  case rh8 => (intro w hSw; (try dsimp only at hSw); go_simp; try with_reducible rfl)
  simp only [Act.put, List.setIfInBounds_toArray, List.set_cons_zero, List.set_cons_succ]
  refine rgn_take (i := 8) (v := ?rv9) rfl (by kernel_rfl) (by kernel_rfl) (by kernel_rfl) (fun _ _ _ h => h) (by rfl) ?rh9 (by assumption) ?rr9
  case rh9 => (intro w hSw; (try dsimp only at hSw); go_simp; try with_reducible rfl)
  simp only [Act.put, List.setIfInBounds_toArray, List.set_cons_zero, List.set_cons_succ]
  refine rgn_take (i := 9) (v := ?rv10) rfl (by kernel_rfl) (by kernel_rfl) (by kernel_rfl) (fun _ _ _ h => h) (by rfl) ?rh10 (by assumption) ?rr10
  case rh10 => (intro w hSw; (try dsimp only at hSw); go_simp; try with_reducible rfl)
  simp only [Act.put, List.setIfInBounds_toArray, List.set_cons_zero, List.set_cons_succ]
  refine rgn_take (i := 10) (v := ?rv11) rfl (by kernel_rfl) (by kernel_rfl) (by kernel_rfl) (fun _ _ _ h => h) (by rfl) ?rh11 (by assumption) ?rr11
  case rh11 => (intro w hSw; (try dsimp only at hSw); go_simp; try with_reducible rfl)
  simp only [Act.put, List.setIfInBounds_toArray, List.set_cons_zero, List.set_cons_succ]
  refine rgn_take (i := 11) (v := ?rv12) rfl (by kernel_rfl) (by kernel_rfl) (by kernel_rfl) (fun _ _ _ h => h) (by rfl) ?rh12 (by assumption) ?rr12
  case rh12 => (intro w hSw; (try dsimp only at hSw); go_simp; try with_reducible rfl)
  simp only [Act.put, List.setIfInBounds_toArray, List.set_cons_zero, List.set_cons_succ]
  refine rgn_take (i := 12) (v := ?rv13) rfl (by kernel_rfl) (by kernel_rfl) (by kernel_rfl) (fun _ _ _ h => h) (by rfl) ?rh13 (by assumption) ?rr13
  case rh13 => (intro w hSw; (try dsimp only at hSw); go_simp; try with_reducible rfl)
  simp only [Act.put, List.setIfInBounds_toArray, List.set_cons_zero, List.set_cons_succ]
  refine rgn_take (i := 13) (v := ?rv14) rfl (by kernel_rfl) (by kernel_rfl) (by kernel_rfl) (fun _ _ _ h => h) (by rfl) ?rh14 (by assumption) ?rr14
  case rh14 => (intro w hSw; (try dsimp only at hSw); go_simp; try with_reducible rfl)
  simp only [Act.put, List.setIfInBounds_toArray, List.set_cons_zero, List.set_cons_succ]
  refine rgn_take (i := 14) (v := ?rv15) rfl (by kernel_rfl) (by kernel_rfl) (by kernel_rfl) (fun _ _ _ h => h) (by rfl) ?rh15 (by assumption) ?rr15
  case rh15 => (intro w hSw; (try dsimp only at hSw); go_simp; try with_reducible rfl)
  simp only [Act.put, List.setIfInBounds_toArray, List.set_cons_zero, List.set_cons_succ]
  refine rgn_take (i := 15) (v := ?rv16) rfl (by kernel_rfl) (by kernel_rfl) (by kernel_rfl) (fun _ _ _ h => h) (by rfl) ?rh16 (by assumption) ?rr16
  case rh16 => (intro w hSw; (try dsimp only at hSw); go_simp; try with_reducible rfl)
  simp only [Act.put, List.setIfInBounds_toArray, List.set_cons_zero, List.set_cons_succ]
  refine rgn_take (i := 16) (v := ?rv17) rfl (by kernel_rfl) (by kernel_rfl) (by kernel_rfl) (fun _ _ _ h => h) (by rfl) ?rh17 (by assumption) ?rr17
  case rh17 => (intro w hSw; (try dsimp only at hSw); go_simp; try with_reducible rfl)
  simp only [Act.put, List.setIfInBounds_toArray, List.set_cons_zero, List.set_cons_succ]
  refine rgn_call (i := 17) rfl (by kernel_rfl) (fun K hK => ?_)
  go_simp
  go_at_call 71; refine (frame_any q A c p HS.out (fun W hW => HHp.out W hW.right.right.right.right.right.right) hm hb0.out hli0.out).mono ?_; rintro y w17 ⟨B17, d17, rfl, hs⟩; rw [← HBl.out] at hs; replace HS := Lib.hid hs; clear hs
  refine hK.out _ _ ⟨HS.out.up5.cell 0, HS.out.up2.cell 1, HS.out.up2.cell 5⟩ (fun hS0 => ?_)
  clear hK K
  refine rgn_call (i := 18) rfl (by kernel_rfl) (fun K hK => ?_)
  go_simp
  go_at_call 70; refine (HW.out _ w17 B17 d17 HS.out.up8 (RdV.of_own HS.out.row_own)).mono ?_; rintro y w18 ⟨rfl, hs⟩; replace HS := Lib.hid (hs.dn8); clear hs
  refine hK.out _ _ ⟨HS.out.up5.cell 0, HS.out.up2.cell 1, HS.out.up2.cell 5⟩ (fun hS0 => ?_)
  clear hK K
  refine rgn_take (i := 19) (v := ?rv20) rfl (by kernel_rfl) (by kernel_rfl) (by kernel_rfl) (fun _ _ _ h => h) (by rfl) ?rh20 (by assumption) ?rr20
  case rh20 => (intro w hSw; (try dsimp only at hSw); go_simp; try with_reducible rfl)
  simp only [Act.put, List.setIfInBounds_toArray, List.set_cons_zero, List.set_cons_succ]
  refine wpAnyH_done (by kernel_rfl) ?_ _
  replace HS := Lib.hid HS.out.right
  have HCl : Hid (∀ (W : World) (V : Value) (rs : Rows_) (D3 : Dk), txt rs = f.frames → Sat w0 (Pt q 110 (flC f V) * (Row 39 1 V rs.length (rs.map slOf) * (RoL rs * (Pt s 102 #[ptrV d, .int .i64 (slot : Int), .int .u64 (turn : Int), v] * (Row 104 1 v ps.length (ps.map fun x => ptrV x.1) * (FlsP (ps.eraseIdx i) * (Disk d D3 * F))))))) W → Sat w0 (SpaceC s d slot turn v ps * (Disk d D3 * F)) W) := fun W V rs D3 ht hW => by
    refine (Sat.flI ht hW).of ?_
    rw [space_at hi, Hf0.out, Hq0.out]
  by_cases hr : R.2 = 0
  · have hr2 : ¬ R.2 ≠ 0 := by omega
    go_upto_region 11 with fail
    have y5 : w18.cell? ⟨q, 5, none⟩ = some (.slice B ks.length bc) := HS.out.cell 5
    have HC := Lib.hid (clone_any A c p w18.drew (HHp.out _ HS.out.drew.right.right.right.right.right.right.right) (by omega))
    go_region_law (first
      | (go_simp; go_at_call 72; (with_reducible refine HC.out.mono ?_); rintro e w6 ⟨v6, rfl, h6, _, k6⟩; have hs := HS.out.drew.gotRow k6 h6; obtain ⟨A6, c6, hv6, _⟩ := hs.row_sl; subst hv6; have HS6 := Lib.hid (hs.row_rol (l := p)); have z5 : w6.cell? ⟨q, 5, none⟩ = some (.slice B ks.length bc) := HS6.out.up2.cell 5; have z6 : ∀ o, (w6.alloc o).cell? ⟨q, 5, none⟩ = some (.slice B ks.length bc) := (fun o => (HS6.out.alloc' o).up2.cell 5); clear hs h6 k6)
      | (refine step_appS rfl (.tmp 57) (.tmp 60) 38 rfl 39 i0 _ 1 24 Try.underlying38 hi0.out hz0.out hz1.out hz2.out rfl (by decide) (.slice B ks.length bc) ks.length (ks.map slOf) rfl w0 _ (by exact (HS6.out.alloc' _).up3) (some ⟨w6.heap.size, 0, none⟩) 1 1 [slOf (A6, c6, p)] rfl (lit_rdv _ _ _) rfl (slOf_oneX _) (by unfold maxLen; omega) (by omega) ?_; intro A8 c8 w8 hs; have HS8 := Lib.hid hs.up3; have c1 : w8.cell? ⟨q, 5, none⟩ = some (.slice B ks.length bc) := hs.up3.cell 5; have f1 := hs.up3.frozen 5; clear hs))
    all_goals
      have h5 := HS8.out.set 5 (.slice A8 (ks.length + 1) c8)
      clear c1 f1
      revert h5
      generalize World.setCell _ _ _ = w9
      intro h5
      have HS9 : Hid (Sat w0 (Pt q 110 (flC { f with frames := f.frames ++ [p] } (.slice A8 (ks.length + 1) c8)) * (Row 39 1 (.slice A8 (ks.length + 1) c8) (ks.length + 1) (ks.map slOf ++ [slOf (A6, c6, p)]) * (RoL [(A6, c6, p)] * (RoL ks * (Pt s 102 #[ptrV d, .int .i64 (slot : Int), .int .u64 (turn : Int), v] * (Row 104 1 v ps.length (ps.map fun x => ptrV x.1) * (FlsP (ps.eraseIdx i) * (Disk d R.1 * F)))))))) w9) := h5
      clear h5
      go_wp2_with fail
      go_ret
      refine ⟨by rw [hr]; rfl, ?_⟩
      rw [if_pos hr, space_set hi (ps[i].1, { ps[i].2 with frames := ps[i].2.frames ++ [p] }) rfl]
      have ht : txt (ks ++ [(A6, c6, p)]) = ({ f with frames := f.frames ++ [p] } : Fl).frames := by
        unfold txt
        rw [List.map_append]
        show txt ks ++ [p] = f.frames ++ [p]
        rw [HKs.out, Hf0.out]
      have h9 := Sat.flI (ks := ks ++ [(A6, c6, p)]) (v := .slice A8 (ks.length + 1) c8) ht (HS9.out.of (by
        show _ = _ * (Row _ 1 _ (ks ++ [(A6, c6, p)]).length _ * (RoL (ks ++ [(A6, c6, p)]) * (Pt s 102 #[ptrV d, .int .i64 (slot : Int), .int .u64 (turn : Int), v] * (Row 104 1 v ps.length (ps.map fun x => ptrV x.1) * (FlsP (ps.eraseIdx i) * (Disk d R.1 * F))))))
        rw [List.length_append, List.map_append, ← rol_app]
        show _ = _ * (Row _ 1 _ (ks.length + 1) (ks.map slOf ++ [slOf (A6, c6, p)]) * _)
        ac_rfl))
      rw [Hf0.out, Hq0.out] at h9
      exact h9
  · go_wp2_with fail
    go_ret
    refine ⟨rfl, ?_⟩
    rw [if_neg hr]
    exact HCl.out _ _ ks _ (HKs.out.trans (by rw [Hf0.out])) HS.out
end
end Go.Proofs.Ytjmapbhgjhlefaa
