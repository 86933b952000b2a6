/- The table's Put. -/
import Derived.Test.YtlcifkkgekpicaaSkip4
namespace Go.Proofs.Ytlcifkkgekpicaa
open Go.RowKit
set_option linter.unusedVariables false

def behind (e : Ent) (ns : List Nd) : List Nd := ns.dropWhile fun n => lessE n.e.ent e
theorem ahead_behind (e : Ent) (ns : List Nd) : ns = ahead e ns ++ behind e ns := (List.takeWhile_append_dropWhile).symm
theorem behind_head {e : Ent} {ns s : List Nd} {m : Nd} (h : behind e ns = m :: s) : ¬ LTE m.e.ent e := by
  have := List.head?_dropWhile_not (fun n : Nd => lessE n.e.ent e) ns
  unfold behind at h
  rw [h] at this
  simp at this
  unfold LTE
  rw [this]
  simp
section
variable {w : World} {b hr : Nat} {ns : List Nd} {e : Ent}
/-- There is one of this key and this number. -/
def twice (e : Ent) (ns : List Nd) : Bool := match behind e ns with | m :: _ => decide (ordE m.e.ent e = 0) | [] => false
theorem twice_iff (hok : NOk ns) : twice e ns = true ↔ ∃ n ∈ ns, same1 n.e.ent e := by
  unfold twice
  have hs := hok.sort
  have ha := ahead_behind e ns
  constructor
  · intro h
    cases hb : behind e ns with
    | nil => rw [hb] at h; simp at h
    | cons m s =>
      rw [hb] at h
      refine ⟨m, by rw [ha, hb]; simp, ord_zero.1 (by simpa using h)⟩
  · rintro ⟨n, hn, hsame⟩
    rw [ha] at hn
    rcases List.mem_append.1 hn with hn | hn
    · exact absurd (mem_ahead hn).2 (same1_not hsame)
    · cases hb : behind e ns with
      | nil => rw [hb] at hn; simp at hn
      | cons m s =>
        rw [hb] at hn
        rcases List.mem_cons.1 hn with q | hn
        · subst q; simpa using ord_zero.2 hsame
        · exfalso
          rw [ha, hb, List.pairwise_append, List.pairwise_cons] at hs
          have h1 := hs.2.1.1 n hn
          refine behind_head hb ?_
          rw [lte_iff] at h1 ⊢
          rw [← hsame.1, ← hsame.2]
          exact h1
theorem View.last (v : View w b hr ns) (hok : NOk ns) {pre beh : List Nd} (hs : ns = pre ++ beh) {i : Nat} (hi : i < 8) :
    ∃ R h, i < h ∧ w.cell? ⟨lastAt b pre i, 0, none⟩ = some (.slice (some ⟨R, 0, none⟩) h h) ∧ w.cell? ⟨R, i, none⟩ = some (ptrN (nxt noT beh i)) := by
  subst hs
  rcases last_split i pre b with ⟨hl, ha⟩ | ⟨p1, m, p2, rfl, hm, hl, ha⟩
  · refine ⟨hr, 8, hi, by rw [ha]; exact v.head, ?_⟩
    have := v.links i hi
    rwa [nxt_app, nxt_low hl] at this
  · obtain ⟨h1, _, _, _, _, h6, _⟩ := v.node p1 m (p2 ++ beh) (by simp)
    have hf := hok.full m (by simp)
    refine ⟨m.r, m.h, by omega, by rw [ha]; exact h1, ?_⟩
    have := h6 i (by omega)
    rwa [nxt_app, nxt_low hl] at this
end
/-- All of a fresh row is one value. -/
theorem made_row (K : Nat) : madeCells #[.pointer none] K = rowN noT K 0 := by
  apply Array.ext'
  apply List.ext_getElem?
  intro i
  unfold madeCells rowN
  by_cases h : i < K
  · simp [h, ptrN]
    rw [Nat.mod_one]
    rfl
  · simp [h]
theorem info_ptr : (Try.prog.info? 79).map (fun i => (i.zero, i.size, i.bytes)) = some (some (.pointer none), 1, 8) := by kernel_rfl
theorem make_ptrs (n : Nat) (hn : n ≤ 1000000) (W : World) : (Instr.makeSlice 71 (.int .i64 (n : Int)) (.int .i64 (n : Int))).run Try.prog W =
    .ok (.slice (some ⟨W.heap.size, 0, none⟩) n n) (W.alloc (.cells (rowN noT n 0) 79)) := by
  obtain ⟨i0, hi, hz0, hz1, hz2⟩ := info_parts info_ptr
  have hr := run_make (P := Try.prog) W 71 79 i0 _ Try.underlying71 hi hz0 .i64 .i64 n n (by omega) (by omega) (by rw [hz2]; omega) (by omega)
  have hc : (Value.pointer none).cells = #[.pointer none] := rfl
  simpa [hz1, hc, made_row] using hr
def clampH (H : Int) : Nat := (min (max H 1) 8).toNat
section
variable {w0 w : World} {F G : SP} {b hr : Nat} {pre beh ns : List Nd} {N : Nd} {c y : Int}
/-- Two rows of one's own are read from now on. -/
theorem rows_rol {A B : Option Addr} {cA cB : Nat} {k v : List UInt8} (h : Sat w0 (Row 5 1 (.slice A k.length cA) k.length (k.map bv) * (Row 5 1 (.slice B v.length cB) v.length (v.map bv) * G)) w) : Sat w0 (RoL [(A, cA, k), (B, cB, v)] * G) w := by
  obtain ⟨A1, c1, e1, _, _, h1⟩ := h.row_ro
  injection e1 with e1 _ _
  subst e1
  obtain ⟨B1, d1, e2, _, _, h2⟩ := h1.up2.row_ro
  injection e2 with e2 _ _
  subst e2
  have h3 : Sat w0 (Rb B v * (Rb A k * G)) w := h2
  rw [show Rb B v = RoL [(B, cB, v)] from rb_rol (B, cB, v), show Rb A k = RoL [(A, cA, k)] from rb_rol (A, cA, k)] at h3
  exact h3.up2.rol_add
/-- A node that is linked nowhere yet. -/
theorem skip_in (h : Sat w0 (Pt N.a 81 (nodeC N) * (Pt N.r 79 (rowN noT N.h 0) * (RoL [N.e.key, N.e.value] * (SkipC b hr (pre ++ beh) c y * F)))) w) : Sat w0 (SkipC b hr (pre ++ N.lev 0 :: beh) c y * F) w := by
  refine Sat.of ?_ (skip_mid b hr pre (N.lev 0) beh c y F).symm
  have e1 : nxt noT (N.lev 0 :: beh) = nxt noT beh := by funext j; rw [nxt_cons, if_neg (by show ¬ j < 0; omega)]
  have e2 : rowN (nxt noT beh) (N.lev 0).h (N.lev 0).v = rowN noT N.h 0 := rowN_congr (fun j _ hj => by have : j < 0 := hj; omega)
  rw [e1, e2]
  have h1 : Sat w0 (RoL ([N.e.key, N.e.value] ++ slcs (pre ++ beh)) * (Pt N.a 81 (nodeC N) * (Pt N.r 79 (rowN noT N.h 0) * (NodesG (nxt noT beh) pre * (Pt hr 79 (rowN (nxt (nxt noT beh) pre) 8 8) *
      (Pt b 75 #[.slice (some ⟨hr, 0, none⟩) 8 8, .int .i64 c, .int .i64 y] * (NodesG noT beh * F))))))) w := h.of (by
    rw [← rol_app]
    unfold SkipC
    rw [nxt_app, nodes_app]
    ac_rfl)
  have h2 := h1.rol_sub (rs' := slcs (pre ++ N.lev 0 :: beh)) (by intro r hr; unfold slcs at hr ⊢; simp [Nd.lev] at hr ⊢; rcases hr with hr | hr | hr | hr <;> simp [hr])
  exact h2.of (by
    show RoL _ * (Pt N.a _ (nodeC N) * (Pt N.r _ _ * (NodesG _ pre * (Pt hr _ _ * (Pt b _ _ * (NodesG noT beh * F)))))) = Pt N.a _ (nodeC N) * (Pt N.r _ _ * (NodesG _ pre * (Pt hr _ _ * (Pt b _ _ * (NodesG noT beh * (RoL _ * F))))))
    ac_rfl)
theorem skip_tab (b hr : Nat) (ns : List Nd) (c y : Int) (F : SP) : SkipC b hr ns c y * F = Pt b 75 #[.slice (some ⟨hr, 0, none⟩) 8 8, .int .i64 c, .int .i64 y] * (Pt hr 79 (rowN (nxt noT ns) 8 8) * (NodesG noT ns * (RoL (slcs ns) * F))) := by
  unfold SkipC; ac_rfl
theorem Sat.skipC1 (h : Sat w0 (SkipC b hr ns c y * F) w) : w.cell? ⟨b, 1, none⟩ = some (.int .i64 c) := (h.of (skip_tab ..)).cell 1
theorem Sat.skipC2 (h : Sat w0 (SkipC b hr ns c y * F) w) : w.cell? ⟨b, 2, none⟩ = some (.int .i64 y) := (h.of (skip_tab ..)).cell 2
theorem Sat.skipFree (h : Sat w0 (SkipC b hr ns c y * F) w) (i : Nat) : w.frozen? ⟨b, i, none⟩ = false := (h.of (skip_tab ..)).frozen i
theorem Sat.skipSet1 (h : Sat w0 (SkipC b hr ns c y * F) w) (c' : Int) : Sat w0 (SkipC b hr ns c' y * F) (w.setCell ⟨b, 1, none⟩ (.int .i64 c')) := Sat.of ((h.of (skip_tab ..)).set 1 (.int .i64 c')) (skip_tab ..).symm
theorem Sat.skipSet2 (h : Sat w0 (SkipC b hr ns c y * F) w) (y' : Int) : Sat w0 (SkipC b hr ns c y' * F) (w.setCell ⟨b, 2, none⟩ (.int .i64 y')) := Sat.of ((h.of (skip_tab ..)).set 2 (.int .i64 y')) (skip_tab ..).symm
end
/-- What Put leaves. -/
def PutS (w0 : World) (F : SP) (b hr : Nat) (ns : List Nd) (c y : Int) (e : Ent) (H : Int) (x : Ending) (w' : World) : Prop :=
  (twice e ns = true ∧ x = .returned (.int .i64 50) ∧ Sat w0 (SkipC b hr ns c y * F) w') ∨
  (twice e ns = false ∧ x = .returned (.int .i64 0) ∧ ∃ N : Nd, N.e.ent = e ∧ N.v = N.h ∧ N.h = clampH H ∧ Sat w0 (SkipC b hr (ahead e ns ++ N :: behind e ns) (c + 1) (y + ((e.key.length + e.value.length : Nat) : Int)) * F) w')
set_option maxRecDepth 100000 in
set_option maxHeartbeats 4000000 in
theorem put_any (b hr : Nat) (ns : List Nd) (c y H : Int) (e : En) (w0 w : World) (F : SP) (h : Sat w0 (SkipC b hr ns c y * F) w) (hok : NOk ns) (he : EnR w e)
    (hk : e.key.2.2.length ≤ 1000000000) (hv : e.value.2.2.length ≤ 1000000000) (hc : 0 ≤ c ∧ c ≤ 1000000000000) (hy : 0 ≤ y ∧ y ≤ 1000000000000) :
    Calls Try.prog 14 #[.pointer (some ⟨b, 0, none⟩), enA e, .int .i64 H] w (PutS w0 F b hr ns c y e.ent H) := by
  have HEA : Hid (∀ e : En, enA e = .agg #[.slice e.key.1 e.key.2.2.length e.key.2.1, .slice e.value.1 e.value.2.2.length e.value.2.1, .int .i64 e.seq, .bool e.dead]) := fun _ => rfl
  have HV := Lib.hid (h.view hok)
  have HE := Lib.hid he
  have HO := Lib.hid hok
  have s1 := h.allocAt (b := w.heap.size) 24 (enC e) rfl
  obtain ⟨W, hW⟩ : ∃ W, W = w.alloc (.cells (enC e) 24) := ⟨_, rfl⟩
  obtain ⟨E, hE⟩ : ∃ E, E = w.heap.size := ⟨_, rfl⟩
  have HC1 : Hid (Chg No w W) := by rw [hW]; exact (Chg.refl No w).alloc _
  rw [← hW, ← hE] at s1
  have HS1 := Lib.hid s1
  have HQ : Hid (Value.agg (outC b (ahead e.ent ns) 0) = .agg #[.pointer (some ⟨lastAt b (ahead e.ent ns) 0, 0, none⟩), .pointer (some ⟨lastAt b (ahead e.ent ns) 1, 0, none⟩), .pointer (some ⟨lastAt b (ahead e.ent ns) 2, 0, none⟩), .pointer (some ⟨lastAt b (ahead e.ent ns) 3, 0, none⟩), .pointer (some ⟨lastAt b (ahead e.ent ns) 4, 0, none⟩), .pointer (some ⟨lastAt b (ahead e.ent ns) 5, 0, none⟩), .pointer (some ⟨lastAt b (ahead e.ent ns) 6, 0, none⟩), .pointer (some ⟨lastAt b (ahead e.ent ns) 7, 0, none⟩)]) := rfl
  have eC : enC e = #[.slice e.key.1 e.key.2.2.length e.key.2.1, .slice e.value.1 e.value.2.2.length e.value.2.1, .int .i64 e.seq, .bool e.dead] := rfl
  rw [eC] at hW
  rw [HEA.out]
  clear h he hok
  go_enter Try.func14, Try.ntmps14
  clear eC s1
  have HW := Lib.hid hW
  have HEq := Lib.hid hE
  clear hW hE
  go_upto_region 3 with (go_at_call 36; rw [← HW.out, ← HEq.out]; refine (before_any b hr ns e W (HV.out.new HC1.out) HO.out (HE.out.new HC1.out)).mono ?_; rintro x w2 ⟨rfl, k2⟩; rw [HQ.out]; have HV2 := Lib.hid ((HV.out.new HC1.out).new k2); have HS2 := Lib.hid (HS1.out.new k2); obtain ⟨R, h', hlt, q0, q1⟩ := (HV2.out.new ((Chg.refl No w2).alloc (.cells #[.pointer (some ⟨lastAt b (ahead e.ent ns) 0, 0, none⟩), .pointer (some ⟨lastAt b (ahead e.ent ns) 1, 0, none⟩), .pointer (some ⟨lastAt b (ahead e.ent ns) 2, 0, none⟩), .pointer (some ⟨lastAt b (ahead e.ent ns) 3, 0, none⟩), .pointer (some ⟨lastAt b (ahead e.ent ns) 4, 0, none⟩), .pointer (some ⟨lastAt b (ahead e.ent ns) 5, 0, none⟩), .pointer (some ⟨lastAt b (ahead e.ent ns) 6, 0, none⟩), .pointer (some ⟨lastAt b (ahead e.ent ns) 7, 0, none⟩)] 77))).last HO.out (ahead_behind e.ent ns) (i := 0) (by omega))
  obtain ⟨W3, hW3⟩ : ∃ W3, W3 = w2.alloc (.cells #[.pointer (some ⟨lastAt b (ahead e.ent ns) 0, 0, none⟩), .pointer (some ⟨lastAt b (ahead e.ent ns) 1, 0, none⟩), .pointer (some ⟨lastAt b (ahead e.ent ns) 2, 0, none⟩), .pointer (some ⟨lastAt b (ahead e.ent ns) 3, 0, none⟩), .pointer (some ⟨lastAt b (ahead e.ent ns) 4, 0, none⟩), .pointer (some ⟨lastAt b (ahead e.ent ns) 5, 0, none⟩), .pointer (some ⟨lastAt b (ahead e.ent ns) 6, 0, none⟩), .pointer (some ⟨lastAt b (ahead e.ent ns) 7, 0, none⟩)] 77) := ⟨_, rfl⟩
  obtain ⟨O, hO⟩ : ∃ O, O = w2.heap.size := ⟨_, rfl⟩
  have HS3 : Hid (Sat w0 (Pt O 77 (outC b (ahead e.ent ns) 0) * (Pt E 24 (enC e) * (SkipC b hr ns c y * F))) W3) := by rw [hW3, hO]; exact HS2.out.allocPt _ _
  have HV3 : Hid (View W3 b hr ns) := by rw [hW3]; exact HV2.out.new ((Chg.refl No w2).alloc _)
  have HE3 : Hid (EnR W3 e) := by rw [hW3]; exact ((HE.out.new HC1.out).new k2).new ((Chg.refl No w2).alloc _)
  rw [← hW3, ← hO]
  clear hW3 hO q0 q1 k2 hlt HS2 HV2 HS1 HW HEq HC1
  go_cut [8, 31] (fun _ s wx => s = .bool (twice e.ent ns) ∧ Hid (EnR wx e ∧ Sat w0 (Pt O 77 (outC b (ahead e.ent ns) 0) * (Pt E 24 (enC e) * (SkipC b hr ns c y * F))) wx))
  case first =>
    rcases nxt_cases (behind e.ent ns) 0 with ⟨e1, hlow⟩ | ⟨u, m, t, e2, e1, hm, hu⟩
    · have hnil : behind e.ent ns = [] := by
        cases hb : behind e.ent ns with
        | nil => rfl
        | cons m s =>
          have h1 := hlow m (by rw [hb]; simp)
          have h2 := HO.out.full m (by rw [ahead_behind e.ent ns, hb]; simp)
          omega
      have HT : Hid (twice e.ent ns = false) := by unfold Hid twice; rw [hnil]
      have e3 : ptrN (nxt noT (behind e.ent ns) 0) = .pointer none := by rw [e1]; rfl
      rw [e3]
      clear e1 e3 hlow hnil
      go_region
      go_wp2_with fail
      go_meet
      exact ⟨by rw [HT.out], HE3.out.new (Chg.refl No _).drew, HS3.out.drew⟩
    · have hu0 : u = [] := by
        cases hb : u with
        | nil => rfl
        | cons x s =>
          have h1 := hu x (by rw [hb]; simp)
          have h2 := HO.out.full x (by rw [ahead_behind e.ent ns, e2, hb]; simp)
          omega
      subst hu0
      rw [List.nil_append] at e2
      have HT0 : Hid (twice e.ent ns = decide (ordE m.e.ent e.ent = 0)) := by unfold Hid twice; rw [e2]
      have e3 : ptrN (nxt noT (behind e.ent ns) 0) = .pointer (some ⟨m.a, 0, none⟩) := by rw [e1]; rfl
      rw [e3]
      obtain ⟨n0, n1, n2, n3, n4, n5, n6⟩ := HV3.out.node (ahead e.ent ns) m t (by rw [← e2]; exact ahead_behind _ _)
      unfold slv' at n1 n2
      have HN := Lib.hid n6
      clear e1 e3 hm hu n5 n6 n0 e2
      have c0 := HS3.out.up2.cell 0; have c1 := HS3.out.up2.cell 1; have c2 := HS3.out.up2.cell 2; have c3 := HS3.out.up2.cell 3
      go_region_law (go_simp; go_at_call 35; refine (order_any m.e e _ (HN.out.new (Chg.refl No W3).drew) (HE3.out.new (Chg.refl No W3).drew)).mono ?_; rintro x w5 ⟨rfl, k5⟩)
      all_goals
        go_wp2_with fail
        go_meet
        exact ⟨by rw [HT0.out]; exact congrArg Value.bool (by rw [Bool.eq_iff_iff]; simp), (HE3.out.new (Chg.refl No W3).drew).new k5, HS3.out.drew.new k5⟩
  case rest =>
    obtain ⟨hs, hcut⟩ := hcut
    subst hs
    obtain ⟨w5, hw5⟩ : ∃ w5, w5 = wc := ⟨_, rfl⟩
    rw [← hw5] at hcut
    rw [← hw5]
    have HC5 := hcut
    clear hw5 HV3 HS3 HE3 hcut wc
    cases hb : twice e.ent ns with
    | true =>
      have HT := Lib.hid hb
      clear hb
      go_wp2_with fail
      go_ret
      exact .inl ⟨HT.out, rfl, HC5.out.2.right.right⟩
    | false =>
      have HT := Lib.hid hb
      clear hb
      go_upto_region 5 with fail
      go_cut [2] (fun s wx => s = .int .i64 (clampH H) ∧ Hid (wx = w5))
      case first =>
        have HK : Hid (clampH H = (min (max H 1) 8).toNat) := rfl
        go_wp2_with fail
        all_goals
          go_meet
          refine ⟨?_, rfl⟩
          congr 1
          rw [HK.out]
          omega
      case rest =>
        obtain ⟨hs, hcw⟩ := hcut
        subst hs
        have hcw := hcw.out
        subst hcw
        have hKl : 1 ≤ clampH H := by unfold clampH; omega
        have hKu : clampH H ≤ 8 := by unfold clampH; omega
        have HK : Hid (clampH H = clampH H) := rfl
        revert hKl hKu HK
        generalize hKK : clampH H = K
        intro hKl hKu HK
        have HKK := Lib.hid hKK
        clear hKK HK
        have c0 := HC5.out.2.up2.cell 0; have c1 := HC5.out.2.up2.cell 1; have c2 := HC5.out.2.up2.cell 2; have c3 := HC5.out.2.up2.cell 3
        go_upto_region 6 with fail
        go_cut [9] (fun s wx => ∃ N : Nd, s = .pointer (some ⟨N.a, 0, none⟩) ∧ Hid (N.e.ent = e.ent ∧ N.h = K ∧ N.v = 0 ∧
          Sat w0 (Pt N.a 81 (nodeC N) * (Pt N.r 79 (rowN noT N.h 0) * (RoL [N.e.key, N.e.value] * (Pt O 77 (outC b (ahead e.ent ns) 0) * (Pt E 24 (enC e) * (SkipC b hr ns c y * F)))))) wx))
        case first =>
          have hmk := fun W => make_ptrs K (by omega) W
          have d0 := (HC5.out.2.alloc' (.cells (rowN noT K 0) 79)).up2.cell 0; have d1 := (HC5.out.2.alloc' (.cells (rowN noT K 0) 79)).up2.cell 1; have d2 := (HC5.out.2.alloc' (.cells (rowN noT K 0) 79)).up2.cell 2; have d3 := (HC5.out.2.alloc' (.cells (rowN noT K 0) 79)).up2.cell 3
          have hk2 : e.key.2.2.length ≤ 140737488355328 := by omega
          have hv2 : e.value.2.2.length ≤ 140737488355328 := by omega
          go_region_law (first
            | (go_simp; go_at_call 37; refine (copied_any e w0 _ _ (HC5.out.2.drew) (HC5.out.1.new (Chg.refl No wc).drew) hk2 hv2).mono ?_; rintro x w6 ⟨⟨A, cA, B, cB, rfl, hs6⟩, k6⟩; have HS6 := Lib.hid hs6; clear hs6 k6; simp only [enA])
            | (go_simp; go_at_call 37; refine (copied_any e w0 _ _ ((HC5.out.2.drew).allocPt 79 (rowN noT K 0)) (HC5.out.1.new ((Chg.refl No wc).drew.alloc (.cells (rowN noT K 0) 79))) hk2 hv2).mono ?_; rintro x w6 ⟨⟨A, cA, B, cB, rfl, hs6⟩, k6⟩; have HS6 := Lib.hid hs6; clear hs6 k6; simp only [enA]))
          all_goals
            go_wp2_with fail
            go_meet
            first
              | exact ⟨⟨_, _, ⟨(A, cA, e.key.2.2), (B, cB, e.value.2.2), e.seq, e.dead⟩, K, 0⟩, rfl, rfl, rfl, rfl, ((rows_rol HS6.out).allocAt 81 _ rfl).up3.up2⟩
              | exact ⟨⟨_, _, ⟨(A, cA, e.key.2.2), (B, cB, e.value.2.2), e.seq, e.dead⟩, K, 0⟩, rfl, rfl, rfl, rfl, ((rows_rol HS6.out).allocPt 79 (rowN noT K 0)).allocAt 81 _ (by simp)⟩
        case rest =>
          obtain ⟨N, hs, hN⟩ := hcut
          subst hs
          have hNe := hN.out.1
          have hNK := hN.out.2.1
          have hx := hN.out.2.2.2
          have e0 := ahead_behind e.ent ns
          obtain ⟨pre, hpre⟩ : ∃ pre, pre = ahead e.ent ns := ⟨_, rfl⟩
          obtain ⟨beh, hbeh⟩ : ∃ beh, beh = behind e.ent ns := ⟨_, rfl⟩
          rw [← hpre, ← hbeh] at e0
          rw [← hpre, show SkipC b hr ns c y = SkipC b hr (pre ++ beh) c y from congrArg (SkipC b hr · c y) e0] at hx
          have hx2 := skip_in (N := N) (pre := pre) (beh := beh) (hx.of (show _ = _ * (_ * (_ * (SkipC b hr (pre ++ beh) c y * (Pt O 77 (outC b pre 0) * (Pt E 24 (enC e) * F))))) by ac_rfl))
          have hfp : ∀ n ∈ pre, n.v = n.h := fun n hn => (HO.out.full n (by rw [e0]; simp [hn])).1
          have HX := Lib.hid hx2
          have HFp := Lib.hid hfp
          have HNe := Lib.hid hNe
          subst hNK
          have Hpre := Lib.hid hpre
          have Hbeh := Lib.hid hbeh
          clear hx hx2 hfp hNe hpre hbeh e0 hN HC5 c0 c1 c2 c3
          go_wp2_with fail
          go_loopw [43] (fun i wr => ∃ k : Nat, k ≤ N.h ∧ i = .int .i64 k ∧ Hid (Sat w0 (SkipC b hr (pre ++ N.lev k :: beh) c y * (Pt O 77 (outC b pre 0) * (Pt E 24 (enC e) * F))) wr)) (fun i _ => N.h - (intOf i).toNat)
          case atStart => exact ⟨0, by omega, rfl, HX.out⟩
          case round =>
            obtain ⟨k, hk9, rfl, HD⟩ := hrel
            by_cases hlt : k < N.h
            · obtain ⟨A, R, hh, sp⟩ := HD.out.spot hlt hKu HFp.out
              have o1 : wr.cell? ⟨O, k, none⟩ = some (.pointer (some ⟨A, 0, none⟩)) := by
                rw [HD.out.up2.cell k, outC_get _ _ _ (by omega), if_pos (by omega), sp.last]; rfl
              have p0 := sp.hi; have p1 := sp.head; have p2 := sp.link; have p3 := sp.free; have p4 := sp.nhead; have p5 := sp.nlink; have p6 := sp.nfree; have p7 := sp.apart
              have p8 : ¬ N.r = R := fun q => p7 q.symm
              have hon := sp.on
              have e5 : ptrN none = .pointer none := rfl
              rw [e5] at p5
              obtain ⟨PP, hPP⟩ : ∃ PP, ptrN (nxt noT beh k) = .pointer PP := ⟨_, rfl⟩
              rw [hPP] at p2 hon
              have HOn := Lib.hid hon
              clear hon hPP e5 sp
              have hk8 : k < 8 := by omega
              go_wp2_with fail
              go_region
              go_wp2_with fail
              go_roundw
              · exact ⟨k + 1, by omega, by push_cast; rfl, HOn.out.drew⟩
              · simp [intOf] <;> omega
            · have hkN : k = N.h := by omega
              subst hkN
              have hw1 : IntKind.i64.wrap (c + 1) = c + 1 := by rw [IntKind.wrap_i64]; omega
              have hw2 : IntKind.i64.wrap ((e.key.2.2.length : Int) + e.value.2.2.length) = (e.key.2.2.length : Int) + e.value.2.2.length := by rw [IntKind.wrap_i64]; omega
              have hw3 : IntKind.i64.wrap (y + ((e.key.2.2.length : Int) + e.value.2.2.length)) = y + ((e.key.2.2.length : Int) + e.value.2.2.length) := by rw [IntKind.wrap_i64]; omega
              have q1 := HD.out.skipC1
              have q2 := HD.out.skipFree 1
              have h7 := HD.out.skipSet1 (c + 1)
              have q3 := h7.skipC2
              have q4 := h7.skipFree 2
              have q5 := h7.up3.cell 0
              have q6 := h7.up3.cell 1
              have HS7 := Lib.hid h7
              clear h7
              go_wp2_with fail
              go_region
              go_wp2_with fail
              go_ret
              have h9 := (HS7.out.skipSet2 (y + ((e.key.2.2.length : Int) + e.value.2.2.length))).drew
              rw [Hpre.out, Hbeh.out] at h9
              refine .inr ⟨HT.out, rfl, N.lev N.h, HNe.out, rfl, HKK.out.symm, ?_⟩
              have ey : (((e.ent.key.length + e.ent.value.length : Nat) : Int)) = (e.key.2.2.length : Int) + e.value.2.2.length := by push_cast; rfl
              rw [ey]
              exact h9.drop2.drop2
end Go.Proofs.Ytlcifkkgekpicaa
