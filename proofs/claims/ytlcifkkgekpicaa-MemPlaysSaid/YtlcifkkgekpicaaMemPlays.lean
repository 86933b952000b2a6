/- MemPlays: the walk. (Written in part by gen_mplays.py.) -/
import Derived.Test.YtlcifkkgekpicaaRng
import Derived.Test.YtlcifkkgekpicaaLend
import Derived.Test.YtlcifkkgekpicaaBookB
namespace Go.Proofs.Ytlcifkkgekpicaa
open Go.RowKit
set_option linter.unusedVariables false

theorem absR_absL {es : List En} {hs : List Nat} {ns : List Nd} (hl : es.length = hs.length) (h : absR es hs = absL ns) : es.map En.ent = fsts ns ∧ es.length = ns.length := by
  have h1 := absR_fst hl
  rw [h] at h1
  refine ⟨h1.symm, ?_⟩
  have h2 := congrArg List.length h
  unfold absR absL at h2
  simp [hl] at h2
  omega
/-- What holds ahead of each Put. -/
structure PlayS (w : World) (b hr r : Nat) (k : Nat) (ns : List Nd) (es : List En) (hs : List Nat) (wr : World) : Prop where
  tab : Tab ns k
  len : es.length = hs.length
  abs : absR es hs = absL ns
  sat : Sat w (SkipT b hr ns * (RTab r es hs * Emp)) wr
theorem PlayS.short {w wr : World} {b hr r k : Nat} {ns : List Nd} {es : List En} {hs : List Nat} (h : PlayS w b hr r k ns es hs wr) : ∀ x ∈ es, x.key.2.2.length ≤ 1000000 ∧ x.value.2.2.length ≤ 1000000 := by
  intro x hx
  have h1 := (absR_absL h.len h.abs).1
  have h2 : x.ent ∈ fsts ns := by rw [← h1]; exact List.mem_map.2 ⟨x, hx, rfl⟩
  unfold fsts absL at h2
  rw [List.map_map] at h2
  obtain ⟨m, hm, e⟩ := List.mem_map.1 h2
  have h3 := h.tab.each m hm
  have k1 : m.e.key.2.2 = x.key.2.2 := congrArg Ent.key e
  have k2 : m.e.value.2.2 = x.value.2.2 := congrArg Ent.value e
  rw [← k1, ← k2]
  omega
theorem lendS {w W : World} {S : SP} (s : Slc) (h : Sat w S W) (hr : Rd W s.1 s.2.2) (hl : s.2.2.length ≤ 140737488355328) : Calls Try.prog 20 #[.slice s.1 s.2.2.length s.2.1] W fun e w' => (∃ g, e = .returned (.slice (some ⟨g, 0, none⟩) s.2.2.length (s.2.2.length + 2)) ∧ Sat w (Pt g 5 (Marked s.2.2) * S) w') ∧ Chg No W w' := by
  refine (lend_any s.1 s.2.1 s.2.2 W hr hl).mono ?_
  rintro e w' ⟨g, rfl, h1, h2, h3⟩
  exact ⟨⟨g, rfl, h.take h3 h1 h2⟩, h3⟩
theorem backS {w W : World} {S : SP} (g : Nat) (s : Slc) (h : Sat w (Pt g 5 (Marked s.2.2) * S) W) (hr : Rd W s.1 s.2.2) (hl : s.2.2.length ≤ 140737488355328) : Calls Try.prog 23 #[.slice (some ⟨g, 0, none⟩) s.2.2.length (s.2.2.length + 2), .slice s.1 s.2.2.length s.2.1] W fun e w' => e = .returned (.bool true) ∧ Sat w S w' := by
  refine (back_yes g s.2.1 s.1 s.2.2 W h.at hr hl).mono ?_
  rintro e w' ⟨rfl, k⟩
  exact ⟨rfl, h.lose k (Nat.lt_of_lt_of_le h.lt k.size)⟩
theorem putP {w W : World} {F : SP} (b hr : Nat) (ns : List Nd) (n : Nat) (H : Int) (x : En) (e : Ent) (he : x.ent = e) (h : Sat w (SkipT b hr ns * F) W) (ht : Tab ns n) (hn : n ≤ 1000) (hr' : EnR W x) (hk : x.key.2.2.length ≤ 200) (hv : x.value.2.2.length ≤ 200) (hs : x.seq ≤ topSeq) :
    Calls Try.prog 14 #[.pointer (some ⟨b, 0, none⟩), .agg #[.slice x.key.1 x.key.2.2.length x.key.2.1, .slice x.value.1 x.value.2.2.length x.value.2.1, .int .i64 x.seq, .bool x.dead], .int .i64 H] W (PutT w F b hr ns n e H) := by
  subst he
  exact putT_any b hr ns n H x w W F h ht hn hr' hk hv hs
theorem rputP {w W : World} {F : SP} (r : Nat) (es : List En) (hs : List Nat) (L : List Pr) (hL : absR es hs = L) (H : Int) (x : En) (e : Ent) (he : x.ent = e) (h : Sat w (RTab r es hs * F) W) (hl : es.length = hs.length) (hn : es.length ≤ 1000) (hr' : EnR W x) (hk : x.key.2.2.length ≤ 200) (hv : x.value.2.2.length ≤ 200) (hH : -9223372036854775808 ≤ H ∧ H ≤ 9223372036854775807) :
    Calls Try.prog 22 #[.pointer (some ⟨r, 0, none⟩), .agg #[.slice x.key.1 x.key.2.2.length x.key.2.1, .slice x.value.1 x.value.2.2.length x.value.2.1, .int .i64 x.seq, .bool x.dead], .int .i64 H] W fun y w' => ∃ es' hs', y = .returned (.int .i64 (if twiceM e L then 50 else 0)) ∧ es'.length = hs'.length ∧ absR es' hs' = insM e (clampH H) L ∧ Sat w (RTab r es' hs' * F) w' := by
  subst he; subst hL
  refine (rput_any r es hs H x w W F h hl hn hr' (by omega) (by omega) hH).mono ?_
  rintro y w' ⟨es', hs', h1, h2, _, h3, _, h4⟩
  exact ⟨es', hs', h1, h2, h3, h4⟩
theorem rgetL (A : Option Addr) (c : Nat) (es : List En) (L : List Ent) (hL : es.map En.ent = L) (hs : L.Pairwise LTE) (K : Slc) (seq : Int) (w : World) (h : RdV w A (es.flatMap enV)) (hr : EnsR w es) (hk : Rd w K.1 K.2.2) (hc : es.length ≤ c) (hm : c ≤ maxLen) :
    Calls Try.prog 27 #[.slice A es.length c, .slice K.1 K.2.2.length K.2.1, .int .i64 seq] w fun x w' => (∃ g : En, x = .returned (.tuple #[.agg #[.slice g.key.1 g.key.2.2.length g.key.2.1, .slice g.value.1 g.value.2.2.length g.value.2.1, .int .i64 g.seq, .bool g.dead], .bool (getL K.2.2 seq L).isSome]) ∧ g.ent = (getL K.2.2 seq L).getD noE ∧ EnR w' g ∧ (g ∈ es ∨ g = ⟨(none, 0, []), (none, 0, []), 0, false⟩)) ∧ Chg No w w' := by
  subst hL
  rw [get_find hs]
  exact rget_any A c es K seq w h hr hk hc hm
theorem owned_ownE : ∀ es : List En, Owned (OwnE es)
  | [] => owned_emp
  | e :: es => owned_star (owned_row _ _ _ _ _) (owned_star (owned_row _ _ _ _ _) (owned_ownE es))
/-- A level, told in memory that is held. -/
theorem levO_any (i : Int) (b hr : Nat) (ns : List Nd) (n : Nat) (w0 w : World) (F : SP) (h : Sat w0 (SkipT b hr ns * F) w) (ht : Tab ns n) (hn : n ≤ 1000) :
    Calls Try.prog 30 #[.pointer (some ⟨b, 0, none⟩), .int .i64 i] w fun x w' => ∃ (es : List En) (A : Option Addr) (c : Nat), x = .returned (.slice A es.length c) ∧ es.map En.ent = levM i (absL ns) ∧ es.length ≤ c ∧ c ≤ maxLen ∧ Sat w0 (Row 24 4 (.slice A es.length c) es.length (es.flatMap enV) * (OwnE es * (SkipT b hr ns * F))) w' := by
  refine (level_any i b hr ns w (h.view ht.ok) ht.ok (ht.small hn)).mono ?_
  rintro x w' ⟨es, A, c, rfl, he, hs⟩
  rw [lev_abs ht.ok] at he
  have h1 := (h.join hs (owned_star (owned_row _ _ _ _ _) (owned_ownE es))).of (star_assoc _ _ _)
  obtain ⟨A', c', e1, h2, h3⟩ := h1.row_sl
  injection e1 with e1 _ e2
  subst e1; subst e2
  exact ⟨es, A, c, rfl, he, h2, h3, h1⟩
/-- All, told in memory that is held. -/
theorem allO_any (b hr : Nat) (ns : List Nd) (n : Nat) (w0 w : World) (F : SP) (h : Sat w0 (SkipT b hr ns * F) w) (ht : Tab ns n) (hn : n ≤ 1000) :
    Calls Try.prog 17 #[.pointer (some ⟨b, 0, none⟩), .slice none 0 0, .slice none 0 0] w fun x w' => ∃ (es : List En) (A : Option Addr) (c : Nat), x = .returned (.slice A es.length c) ∧ es.map En.ent = fsts ns ∧ es.length ≤ c ∧ c ≤ maxLen ∧ Sat w0 (Row 24 4 (.slice A es.length c) es.length (es.flatMap enV) * (OwnE es * (SkipT b hr ns * F))) w' := by
  refine (range_any none 0 [] none 0 [] b hr ns w (Rd.nil _ _) (Rd.nil _ _) (h.view ht.ok) ht.ok (ht.small hn)).mono ?_
  rintro x w' ⟨es, A, c, rfl, he, hs⟩
  rw [range_all ht] at he
  have h1 := (h.join hs (owned_star (owned_row _ _ _ _ _) (owned_ownE es))).of (star_assoc _ _ _)
  obtain ⟨A', c', e1, h2, h3⟩ := h1.row_sl
  injection e1 with e1 _ e2
  subst e1; subst e2
  exact ⟨es, A, c, rfl, he, h2, h3, h1⟩
theorem told_short {ns : List Nd} {n : Nat} {es : List En} (ht : Tab ns n) (h : es.map En.ent = fsts ns) : ∀ x ∈ es, x.key.2.2.length ≤ 1000000 ∧ x.value.2.2.length ≤ 1000000 := by
  intro x hx
  have h2 : x.ent ∈ fsts ns := by rw [← h]; exact List.mem_map.2 ⟨x, hx, rfl⟩
  unfold fsts absL at h2
  rw [List.map_map] at h2
  obtain ⟨m, hm, e⟩ := List.mem_map.1 h2
  have h3 := ht.each m hm
  have k1 : m.e.key.2.2 = x.key.2.2 := congrArg Ent.key e
  have k2 : m.e.value.2.2 = x.value.2.2 := congrArg Ent.value e
  rw [← k1, ← k2]
  omega
theorem book_ens {k : Nat} {es : List En} {w0 w : World} {F : SP} (h : Sat w0 (BookP k (eslc es) * F) w) : EnsR w es := by
  obtain ⟨vb, vs, ss, ht, h1⟩ := h.bookP
  have h2 := ownR_ownL ((h1.of (book_d ..)).up4)
  intro x hx
  have m : ∀ y, y ∈ [x.key, x.value] → y ∈ eslc es := fun y hy => List.mem_flatMap.2 ⟨x, hx, hy⟩
  exact ⟨RdV.of_own (h2.own _ (m _ (by simp))), RdV.of_own (h2.own _ (m _ (by simp)))⟩
theorem book_new {k : Nat} {w0 w : World} {F : SP} (h : Sat w0 (Pt k 65 #[.slice none 0 0, .slice none 0 0, .slice none 0 0, .slice none 0 0, .slice none 0 0, .slice none 0 0] * F) w) : Sat w0 (BookP k (eslc []) * F) w := by
  have h1 := ((h.row_nil 22 1).row_nil 22 1)
  refine Sat.bookI (vb := .slice none 0 0) (vs := .slice none 0 0) (ss := []) rfl (h1.of ?_)
  rw [book_d]
  show Row _ _ _ _ _ * (Row _ _ _ _ _ * (Pt _ _ _ * F)) = Pt _ _ _ * (Row _ _ _ _ _ * (Row _ _ _ _ _ * (Emp * (Emp * F))))
  rw [emp_star, emp_star]
  ac_rfl
theorem ents_cell {w0 w : World} {F : SP} {fb fo n c : Nat} {es : List En} (h : Sat w0 (Row 24 4 (.slice (some ⟨fb, fo, none⟩) n c) n (es.flatMap enV) * F) w) (q : Nat) (hq : q < es.length) :
    w.cell? ⟨fb, fo + q * 4, none⟩ = some (.slice es[q].key.1 es[q].key.2.2.length es[q].key.2.1) ∧ w.cell? ⟨fb, fo + q * 4 + 1, none⟩ = some (.slice es[q].value.1 es[q].value.2.2.length es[q].value.2.1) := by
  obtain ⟨b, o, e, hc⟩ := ents_at (Sat.row_rdK (h := h)) (by omega)
  injection e with e
  injection e with e1 e2
  subst e1; subst e2
  exact ⟨(hc q hq).1, (hc q hq).2.1⟩
theorem Sat.rtabEns {w0 w : World} {F : SP} {r : Nat} {vL vH : Value} {es : List En} {hs : List Nat} (h : Sat w0 (RTabC r vL vH es hs * F) w) : EnsR w es := fun e he => h.rtabEnt he
theorem eslc_take {es : List En} {q : Nat} (h : q < es.length) : eslc (es.take (q + 1)) = (eslc (es.take q) ++ [es[q].key]) ++ [es[q].value] := by
  rw [List.take_succ_eq_append_getElem h]
  unfold eslc
  rw [List.flatMap_append]
  simp
theorem eslc_len : ∀ es : List En, (eslc es).length = 2 * es.length
  | [] => rfl
  | e :: es => by
    have := eslc_len es
    unfold eslc at this ⊢
    rw [List.flatMap_cons, List.length_append, this]
    simp
    omega
theorem lev_ref {es : List En} {hs : List Nat} {ns : List Nd} (hok : NOk ns) (hl : es.length = hs.length) (h : absR es hs = absL ns) (i : Int) (hi : i ≤ 8) : (if 0 ≤ i then levT i es hs es.length else []) = levM i (absL ns) := by
  have hT : levT i es hs es.length = ((absL ns).filter fun p => decide (i < (p.2 : Int))).map (·.1) := by
    unfold levT
    rw [h, List.take_of_length_le (by rw [← h]; unfold absR; simp; omega)]
  unfold levM
  by_cases h0 : 0 ≤ i
  · rw [if_pos h0, hT]
    by_cases h8 : i < 8
    · rw [if_pos ⟨h0, h8⟩]
    · rw [if_neg (by omega), List.filter_eq_nil_iff.2]
      · rfl
      · intro p hp
        obtain ⟨n, hn, rfl⟩ := List.mem_map.1 hp
        have := (hok.full n hn).2.2
        have h9 : ((absN n).2 : Int) ≤ 8 := by show (n.h : Int) ≤ 8; omega
        simp
        omega
  · rw [if_neg h0, if_neg (by omega)]
set_option maxRecDepth 100000 in
set_option maxHeartbeats 4000000 in
theorem memPlays_walk (A : Option Addr) (cap : Nat) (l : List PuD) (KA : Option Addr) (kc : Nat) (ks : Rows_) (seq : Int) (w : World) (hl : PusIn w A cap l)
    (hk : ks.length ≤ kc ∧ kc ≤ maxLen ∧ RdL w KA ks ∧ ks.length ≤ 5864062014634 ∧ (∀ k ∈ ks, k.2.2.length ≤ 140737488351232 ∧ k.2.2.length ≤ k.2.1 ∧ k.2.1 ≤ maxLen)) (hsq : -9223372036854775808 ≤ seq ∧ seq ≤ 9223372036854775807) :
    Calls Try.prog 6 #[.slice A l.length cap, .slice KA ks.length kc, .int .i64 seq] w (Asked true w) := by
  have HP := Lib.hid hl
  have HK := Lib.hid hk
  have hc1 := hl.1
  have hc2 := hl.2.1
  unfold maxLen at hc2
  have hk1 := hk.1
  have hk2 := hk.2.1
  unfold maxLen at hk2
  clear hl hk
  have HW := Lib.hid (Sat.start w)
  go_enter Try.func6, Try.ntmps6
  go_upto_block 0 with (first
    | (go_at_call 13; refine (newT_any w _ _ HW.out).mono ?_; rintro x w1 ⟨b, hr, rfl, hs1⟩; have HS1 := Lib.hid hs1; clear hs1)
    | (go_at_call 12; refine (mwakes_any _).mono ?_; rintro x w2 ⟨rfl, k2⟩; have HS2 := Lib.hid (HS1.out.new k2); clear k2))
  have hs3 := HS2.out.allocPt 51 #[.slice none 0 0, .slice none 0 0]
  revert hs3
  generalize w2.alloc _ = w3
  generalize w2.heap.size = r
  intro hs3
  have HS3 : Hid (PlayS w b hr r 0 [] [] [] w3) := ⟨tab_nil 0, rfl, rfl, by
    have h1 := ((((hs3.rolNil (eslc []) (by simp [eslc])).up2).row_nil 3 1).row_nil 24 4)
    have h2 : Sat w (RTab r [] [] * (SkipT b hr [] * Emp)) w3 := Sat.rtabI (vL := .slice none 0 0) (vH := .slice none 0 0) (h1.of (by
      rw [rtab_d]
      show Row _ _ _ _ _ * (Row _ _ _ _ _ * (Pt r _ _ * (RoL _ * (SkipT b hr [] * Emp)))) = Pt r _ _ * (Row _ _ _ _ _ * (Row _ _ _ _ _ * (RoL _ * (SkipT b hr [] * Emp))))
      ac_rfl))
    exact h2.up2⟩
  clear hs3 HS1 HS2
  go_cut [9] (fun i wx => ∃ (k : Nat) (ns : List Nd) (es : List En) (hs : List Nat), k ≤ 80 ∧ i = .int .i64 k ∧ Hid (PlayS w b hr r k ns es hs wx))
  case first =>
    go_wp2_with fail
    go_loopw [9] (fun i wr => ∃ (k : Nat) (ns : List Nd) (es : List En) (hs : List Nat), k ≤ 80 ∧ k ≤ l.length ∧ i = .int .i64 k ∧ Hid (PlayS w b hr r k ns es hs wr)) (fun i _ => 80 - (intOf i).toNat)
    case atStart => exact ⟨0, [], [], [], by omega, by omega, rfl, HS3.out⟩
    case round =>
      obtain ⟨k, ns, es, hs, hk80, hkl, rfl, HD⟩ := hrel
      by_cases hx : k < l.length ∧ k < 80
      · obtain ⟨hlt, h80⟩ := hx
        obtain ⟨lb, lo, rfl, hq⟩ := puts_at HP.out.2.2.1 (by omega)
        obtain ⟨z0, z1, z2, z3, z4⟩ := hq k hlt
        have a0 := HD.out.sat.chg.cell z0 id; have a1 := HD.out.sat.chg.cell z1 id; have a2 := HD.out.sat.chg.cell z2 id; have a3 := HD.out.sat.chg.cell z3 id
        have Z4 := Lib.hid z4
        unfold slv' at a0 a1
        clear hq z0 z1 z2 z3 z4
        have HE := Lib.hid (HP.out.2.2.2.2 l[k] (List.getElem_mem _)).1
        have HHt : Hid (-9223372036854775808 ≤ l[k].H ∧ l[k].H ≤ 9223372036854775807) := (HP.out.2.2.2.2 l[k] (List.getElem_mem _)).2
        have hkk : k ≤ 1000 := by omega
        have hnl : es.length ≤ 1000 := by have h1 := (absR_absL HD.out.len HD.out.abs).2; have h2 := HD.out.tab.len; omega
        go_upto_region 10 with (go_at_call 15; (with_reducible refine (cutX l[k].e HD.out.sat HE.out.k2 HE.out.v2).mono ?_); rintro x w5 ⟨⟨ck, cv, rfl, hck, hcv⟩, hs5⟩; have hs6 := hs5.allocPt 24 #[.slice l[k].e.key.1 ck.length l[k].e.key.2.1, .slice l[k].e.value.1 cv.length l[k].e.value.2.1, .int .i64 l[k].e.seq, .bool l[k].e.dead]; have p0 := hs6.cell 0; have p1 := hs6.cell 1; have p2 := hs6.cell 2; have p3 := hs6.cell 3; have HS6 := Lib.hid (hs6.allocAt (b := w5.heap.size + 1) 24 #[.slice l[k].e.key.1 ck.length l[k].e.key.2.1, .slice l[k].e.value.1 cv.length l[k].e.value.2.1, .int .i64 l[k].e.seq, .bool l[k].e.dead] (by simp)); have HCk := Lib.hid hck; have HCv := Lib.hid hcv; have hckl : ck.length ≤ 200 := (by rw [hck, List.length_take]; omega); have hcvl : cv.length ≤ 200 := (by rw [hcv, List.length_take]; omega); clear hs5 hs6 hck hcv)
        obtain ⟨w6, hw6⟩ : ∃ w6, w6 = (w5.alloc (.cells #[.slice l[k].e.key.1 ck.length l[k].e.key.2.1, .slice l[k].e.value.1 cv.length l[k].e.value.2.1, .int .i64 l[k].e.seq, .bool l[k].e.dead] 24)).alloc (.cells #[.slice l[k].e.key.1 ck.length l[k].e.key.2.1, .slice l[k].e.value.1 cv.length l[k].e.value.2.1, .int .i64 l[k].e.seq, .bool l[k].e.dead] 24) := ⟨_, rfl⟩
        obtain ⟨E2, hE2⟩ : ∃ E2, E2 = w5.heap.size + 1 := ⟨_, rfl⟩
        rw [← hw6, ← hE2] at HS6
        rw [← hw6, ← hE2]
        clear hw6 hE2 p0 p1 p2 p3
        generalize w5.heap.size = E1 at *
        have HEk : Hid (∀ x, Chg No w x → Rd x l[k].e.key.1 ck ∧ Rd x l[k].e.value.1 cv) := fun x hx => by
          rw [HCk.out, HCv.out]
          exact cutN_r (HE.out.r.new hx)
        clear a0 a1 a2 a3
        have e0 := HS6.out.up2.cell 0; have e1 := HS6.out.up2.cell 1; have e2 := HS6.out.up2.cell 2; have e3 := HS6.out.up2.cell 3
        have q0 := HS6.out.cell 0; have q1 := HS6.out.cell 1
        refine wp_region_held_drew (S := fun w' => w'.cell? ⟨E1, 0, none⟩ = some (.slice l[k].e.key.1 ck.length l[k].e.key.2.1) ∧ w'.cell? ⟨E1, 1, none⟩ = some (.slice l[k].e.value.1 cv.length l[k].e.value.2.1) ∧ w'.cell? ⟨E1, 2, none⟩ = some (.int .i64 l[k].e.seq) ∧ w'.cell? ⟨E1, 3, none⟩ = some (.bool l[k].e.dead)) (by kernel_rfl) ⟨e0, e1, e2, e3⟩ ?_
        intro hS0
        refine rgn_take (i := 0) (v := ?rv1) rfl (by kernel_rfl) (by kernel_rfl) (by kernel_rfl) (fun _ _ _ h => h) (by rfl) ?rh1 (by assumption) ?rr1
        case rh1 => (intro w hSw; (try dsimp only at hSw); go_simp; try with_reducible rfl)
        simp only [Act.put, List.setIfInBounds_toArray, List.set_cons_zero, List.set_cons_succ]
        refine rgn_take (i := 1) (v := ?rv2) rfl (by kernel_rfl) (by kernel_rfl) (by kernel_rfl) (fun _ _ _ h => h) (by rfl) ?rh2 (by assumption) ?rr2
        case rh2 => (intro w hSw; (try dsimp only at hSw); go_simp; try with_reducible rfl)
        simp only [Act.put, List.setIfInBounds_toArray, List.set_cons_zero, List.set_cons_succ]
        refine rgn_take (i := 3) (v := ?rv3) rfl (by kernel_rfl) (by kernel_rfl) (by kernel_rfl) (fun _ _ _ h => h) (by rfl) ?rh3 (by assumption) ?rr3
        case rh3 => (intro w hSw; (try dsimp only at hSw); go_simp; try with_reducible rfl)
        simp only [Act.put, List.setIfInBounds_toArray, List.set_cons_zero, List.set_cons_succ]
        refine rgn_take (i := 4) (v := ?rv4) rfl (by kernel_rfl) (by kernel_rfl) (by kernel_rfl) (fun _ _ _ h => h) (by rfl) ?rh4 (by assumption) ?rr4
        case rh4 => (intro w hSw; (try dsimp only at hSw); go_simp; try with_reducible rfl)
        simp only [Act.put, List.setIfInBounds_toArray, List.set_cons_zero, List.set_cons_succ]
        refine rgn_call (i := 2) rfl (by kernel_rfl) (fun K hK => ?_)
        go_simp
        go_at_call 20; (with_reducible refine (lendS (l[k].e.key.1, l[k].e.key.2.1, ck) HS6.out.drew (HEk.out _ HS6.out.drew.chg).1 (by simp only []; omega)).mono ?_); rintro x w7 ⟨⟨g1, rfl, hs7⟩, k7⟩; have HS7 := Lib.hid hs7; clear hs7 k7
        refine hK.out _ _ ⟨HS7.out.up3.cell 0, HS7.out.up3.cell 1, HS7.out.up3.cell 2, HS7.out.up3.cell 3⟩ (fun hS0 => ?_)
        clear hK K
        refine rgn_take (i := 6) (v := ?rv6) rfl (by kernel_rfl) (by kernel_rfl) (by kernel_rfl) (fun _ _ _ h => h) (by rfl) ?rh6 (by assumption) ?rr6
        case rh6 => (intro w hSw; (try dsimp only at hSw); go_simp; try with_reducible rfl)
        simp only [Act.put, List.setIfInBounds_toArray, List.set_cons_zero, List.set_cons_succ]
        refine rgn_call (i := 5) rfl (by kernel_rfl) (fun K hK => ?_)
        go_simp
        go_at_call 20; (with_reducible refine (lendS (l[k].e.value.1, l[k].e.value.2.1, cv) HS7.out (HEk.out _ HS7.out.chg).2 (by simp only []; omega)).mono ?_); rintro x w8 ⟨⟨g2, rfl, hs8⟩, k8⟩; have HS8 := Lib.hid hs8; have r0 := hs8.up3.cell 0; have r1 := hs8.up3.cell 1; have v0 := hs8.up3.frozen 0; have v1 := hs8.up3.frozen 1; clear hs8 k8
        refine hK.out _ _ ⟨HS8.out.up4.cell 0, HS8.out.up4.cell 1, HS8.out.up4.cell 2, HS8.out.up4.cell 3⟩ (fun hS0 => ?_)
        clear hK K
        refine rgn_call (i := 7) rfl (by kernel_rfl) (fun K hK => ?_)
        go_simp
        have hs9 := HS8.out.up3.set 0 (.slice (some ⟨g1, 0, none⟩) ck.length (ck.length + 2)); have y1 := hs9.cell 1; have u1 := hs9.frozen 1; have HS9 := Lib.hid hs9; clear hs9
        refine hK.out _ _ ⟨HS9.out.up4.cell 0, HS9.out.up4.cell 1, HS9.out.up4.cell 2, HS9.out.up4.cell 3⟩ (fun hS0 => ?_)
        clear hK K
        refine rgn_take (i := 8) (v := ?rv9) rfl (by kernel_rfl) (by kernel_rfl) (by kernel_rfl) (fun _ _ _ h => h) (by rfl) ?rh9 (by assumption) ?rr9
        case rh9 => (intro w hSw; (try dsimp only at hSw); go_simp; try with_reducible rfl)
        simp only [Act.put, List.setIfInBounds_toArray, List.set_cons_zero, List.set_cons_succ]
        refine rgn_call (i := 9) rfl (by kernel_rfl) (fun K hK => ?_)
        go_simp
        have HS10 := Lib.hid (HS9.out.set 1 (.slice (some ⟨g2, 0, none⟩) cv.length (cv.length + 2)))
        refine hK.out _ _ ⟨HS10.out.up4.cell 0, HS10.out.up4.cell 1, HS10.out.up4.cell 2, HS10.out.up4.cell 3⟩ (fun hS0 => ?_)
        clear hK K
        refine wpAnyH_done (by kernel_rfl) ?_ _
        go_upto_region 11 with fail
        have hs11 : Sat w (Pt E2 24 #[.slice (some ⟨g1, 0, none⟩) ck.length (ck.length + 2), .slice (some ⟨g2, 0, none⟩) cv.length (cv.length + 2), .int .i64 l[k].e.seq, .bool l[k].e.dead] * (Pt g2 5 (Marked cv) * (Pt g1 5 (Marked ck) * (Pt E1 24 #[.slice l[k].e.key.1 ck.length l[k].e.key.2.1, .slice l[k].e.value.1 cv.length l[k].e.value.2.1, .int .i64 l[k].e.seq, .bool l[k].e.dead] * (SkipT b hr ns * (RTab r es hs * Emp)))))) _ := HS10.out
        clear e0 e1 e2 e3 q0 q1 r0 r1 v0 v1 y1 u1 HS10 HS9
        revert hs11
        generalize World.setCell (World.setCell w8 _ _) _ _ = w11
        intro hs11
        have e0 := hs11.up4.cell 0; have e1 := hs11.up4.cell 1; have e2 := hs11.up4.cell 2; have e3 := hs11.up4.cell 3
        have q0 := hs11.cell 0; have q1 := hs11.cell 1; have q2 := hs11.cell 2; have q3 := hs11.cell 3
        have z4 := hs11.chg.cell Z4.out id
        have HS11 := Lib.hid hs11
        clear hs11
        obtain ⟨ee, hee⟩ : ∃ ee : Ent, ee = ⟨ck, cv, l[k].e.seq, l[k].e.dead⟩ := ⟨_, rfl⟩
        have HEe1 : Hid (En.ent ⟨(some ⟨g1, 0, none⟩, ck.length + 2, ck), (some ⟨g2, 0, none⟩, cv.length + 2, cv), l[k].e.seq, l[k].e.dead⟩ = ee) := hee.symm
        have HEe2 : Hid (En.ent ⟨(l[k].e.key.1, l[k].e.key.2.1, ck), (l[k].e.value.1, l[k].e.value.2.1, cv), l[k].e.seq, l[k].e.dead⟩ = ee) := hee.symm
        have HEr1 : Hid (EnR w11.drew ⟨(some ⟨g1, 0, none⟩, ck.length + 2, ck), (some ⟨g2, 0, none⟩, cv.length + 2, cv), l[k].e.seq, l[k].e.dead⟩) := ⟨marked_rd HS11.out.drew.up3.at, marked_rd HS11.out.drew.up2.at⟩
        have HEr2 : Hid (∀ x, Chg No w x → EnR x ⟨(l[k].e.key.1, l[k].e.key.2.1, ck), (l[k].e.value.1, l[k].e.value.2.1, cv), l[k].e.seq, l[k].e.dead⟩) := fun x hx => HEk.out x hx
        have HSq : Hid (l[k].e.seq ≤ topSeq) := HE.out.s.2
        obtain ⟨PL, hPL⟩ : ∃ PL, absL ns = PL := ⟨_, rfl⟩
        have HPL := Lib.hid hPL
        have HPR : Hid (absR es hs = PL) := HD.out.abs.trans hPL
        obtain ⟨code, hcode⟩ : ∃ code : Int, (if twiceM ee PL then (50 : Int) else 0) = code := ⟨_, rfl⟩
        have HCo := Lib.hid hcode
        clear hee hPL hcode
        refine wp_region_held_drew (S := fun w' => (w'.cell? ⟨E1, 0, none⟩ = some (.slice l[k].e.key.1 ck.length l[k].e.key.2.1) ∧ w'.cell? ⟨E1, 1, none⟩ = some (.slice l[k].e.value.1 cv.length l[k].e.value.2.1) ∧ w'.cell? ⟨E1, 2, none⟩ = some (.int .i64 l[k].e.seq) ∧ w'.cell? ⟨E1, 3, none⟩ = some (.bool l[k].e.dead)) ∧ (w'.cell? ⟨E2, 0, none⟩ = some (.slice (some ⟨g1, 0, none⟩) ck.length (ck.length + 2)) ∧ w'.cell? ⟨E2, 1, none⟩ = some (.slice (some ⟨g2, 0, none⟩) cv.length (cv.length + 2)) ∧ w'.cell? ⟨E2, 2, none⟩ = some (.int .i64 l[k].e.seq) ∧ w'.cell? ⟨E2, 3, none⟩ = some (.bool l[k].e.dead)) ∧ w'.cell? ⟨lb, lo + k * 5 + 4, none⟩ = some (.int .i64 l[k].H)) (by kernel_rfl) ⟨⟨e0, e1, e2, e3⟩, ⟨q0, q1, q2, q3⟩, z4⟩ ?_
        intro hS0
        refine rgn_take (i := 0) (v := ?rv11) rfl (by kernel_rfl) (by kernel_rfl) (by kernel_rfl) (fun _ _ _ h => h) (by rfl) ?rh11 (by assumption) ?rr11
        case rh11 => (intro w hSw; (try dsimp only at hSw); go_simp; try with_reducible rfl)
        simp only [Act.put, List.setIfInBounds_toArray, List.set_cons_zero, List.set_cons_succ]
        refine rgn_take (i := 1) (v := ?rv12) rfl (by kernel_rfl) (by kernel_rfl) (by kernel_rfl) (fun _ _ _ h => h) (by rfl) ?rh12 (by assumption) ?rr12
        case rh12 => (intro w hSw; (try dsimp only at hSw); go_simp; try with_reducible rfl)
        simp only [Act.put, List.setIfInBounds_toArray, List.set_cons_zero, List.set_cons_succ]
        refine rgn_take (i := 2) (v := ?rv13) rfl (by kernel_rfl) (by kernel_rfl) (by kernel_rfl) (fun _ _ _ h => h) (by rfl) ?rh13 (by assumption) ?rr13
        case rh13 => (intro w hSw; (try dsimp only at hSw); go_simp; try with_reducible rfl)
        simp only [Act.put, List.setIfInBounds_toArray, List.set_cons_zero, List.set_cons_succ]
        refine rgn_take (i := 3) (v := ?rv14) rfl (by kernel_rfl) (by kernel_rfl) (by kernel_rfl) (fun _ _ _ h => h) (by rfl) ?rh14 (by assumption) ?rr14
        case rh14 => (intro w hSw; (try dsimp only at hSw); go_simp; try with_reducible rfl)
        simp only [Act.put, List.setIfInBounds_toArray, List.set_cons_zero, List.set_cons_succ]
        refine rgn_take (i := 4) (v := ?rv15) rfl (by kernel_rfl) (by kernel_rfl) (by kernel_rfl) (fun _ _ _ h => h) (by rfl) ?rh15 (by assumption) ?rr15
        case rh15 => (intro w hSw; (try dsimp only at hSw); go_simp; try with_reducible rfl)
        simp only [Act.put, List.setIfInBounds_toArray, List.set_cons_zero, List.set_cons_succ]
        refine rgn_take (i := 5) (v := ?rv16) rfl (by kernel_rfl) (by kernel_rfl) (by kernel_rfl) (fun _ _ _ h => h) (by rfl) ?rh16 (by assumption) ?rr16
        case rh16 => (intro w hSw; (try dsimp only at hSw); go_simp; try with_reducible rfl)
        simp only [Act.put, List.setIfInBounds_toArray, List.set_cons_zero, List.set_cons_succ]
        refine rgn_take (i := 6) (v := ?rv17) rfl (by kernel_rfl) (by kernel_rfl) (by kernel_rfl) (fun _ _ _ h => h) (by rfl) ?rh17 (by assumption) ?rr17
        case rh17 => (intro w hSw; (try dsimp only at hSw); go_simp; try with_reducible rfl)
        simp only [Act.put, List.setIfInBounds_toArray, List.set_cons_zero, List.set_cons_succ]
        refine rgn_take (i := 9) (v := ?rv18) rfl (by kernel_rfl) (by kernel_rfl) (by kernel_rfl) (fun _ _ _ h => h) (by rfl) ?rh18 (by assumption) ?rr18
        case rh18 => (intro w hSw; (try dsimp only at hSw); go_simp; try with_reducible rfl)
        simp only [Act.put, List.setIfInBounds_toArray, List.set_cons_zero, List.set_cons_succ]
        refine rgn_take (i := 10) (v := ?rv19) rfl (by kernel_rfl) (by kernel_rfl) (by kernel_rfl) (fun _ _ _ h => h) (by rfl) ?rh19 (by assumption) ?rr19
        case rh19 => (intro w hSw; (try dsimp only at hSw); go_simp; try with_reducible rfl)
        simp only [Act.put, List.setIfInBounds_toArray, List.set_cons_zero, List.set_cons_succ]
        refine rgn_take (i := 11) (v := ?rv20) rfl (by kernel_rfl) (by kernel_rfl) (by kernel_rfl) (fun _ _ _ h => h) (by rfl) ?rh20 (by assumption) ?rr20
        case rh20 => (intro w hSw; (try dsimp only at hSw); go_simp; try with_reducible rfl)
        simp only [Act.put, List.setIfInBounds_toArray, List.set_cons_zero, List.set_cons_succ]
        refine rgn_take (i := 12) (v := ?rv21) rfl (by kernel_rfl) (by kernel_rfl) (by kernel_rfl) (fun _ _ _ h => h) (by rfl) ?rh21 (by assumption) ?rr21
        case rh21 => (intro w hSw; (try dsimp only at hSw); go_simp; try with_reducible rfl)
        simp only [Act.put, List.setIfInBounds_toArray, List.set_cons_zero, List.set_cons_succ]
        refine rgn_take (i := 13) (v := ?rv22) rfl (by kernel_rfl) (by kernel_rfl) (by kernel_rfl) (fun _ _ _ h => h) (by rfl) ?rh22 (by assumption) ?rr22
        case rh22 => (intro w hSw; (try dsimp only at hSw); go_simp; try with_reducible rfl)
        simp only [Act.put, List.setIfInBounds_toArray, List.set_cons_zero, List.set_cons_succ]
        refine rgn_take (i := 14) (v := ?rv23) rfl (by kernel_rfl) (by kernel_rfl) (by kernel_rfl) (fun _ _ _ h => h) (by rfl) ?rh23 (by assumption) ?rr23
        case rh23 => (intro w hSw; (try dsimp only at hSw); go_simp; try with_reducible rfl)
        simp only [Act.put, List.setIfInBounds_toArray, List.set_cons_zero, List.set_cons_succ]
        refine rgn_take (i := 15) (v := ?rv24) rfl (by kernel_rfl) (by kernel_rfl) (by kernel_rfl) (fun _ _ _ h => h) (by rfl) ?rh24 (by assumption) ?rr24
        case rh24 => (intro w hSw; (try dsimp only at hSw); go_simp; try with_reducible rfl)
        simp only [Act.put, List.setIfInBounds_toArray, List.set_cons_zero, List.set_cons_succ]
        refine rgn_call (i := 7) rfl (by kernel_rfl) (fun K hK => ?_)
        go_simp
        go_at_call 14; (with_reducible refine (putP b hr ns k l[k].H ⟨(some ⟨g1, 0, none⟩, ck.length + 2, ck), (some ⟨g2, 0, none⟩, cv.length + 2, cv), l[k].e.seq, l[k].e.dead⟩ ee HEe1.out HS11.out.drew.up5 HD.out.tab hkk HEr1.out hckl hcvl HSq.out).mono ?_); rintro x w12 ⟨ns', rfl, ht7, ha7, hs7⟩; rw [HPL.out, HCo.out]; have HT7 := Lib.hid ht7; have HA7 := Lib.hid ha7; have HS12 := Lib.hid hs7; clear ht7 ha7 hs7
        refine hK.out _ _ ⟨⟨HS12.out.up5.cell 0, HS12.out.up5.cell 1, HS12.out.up5.cell 2, HS12.out.up5.cell 3⟩, ⟨HS12.out.up2.cell 0, HS12.out.up2.cell 1, HS12.out.up2.cell 2, HS12.out.up2.cell 3⟩, HS12.out.chg.cell Z4.out id⟩ (fun hS0 => ?_)
        clear hK K
        refine rgn_call (i := 8) rfl (by kernel_rfl) (fun K hK => ?_)
        go_simp
        go_at_call 21; refine (mnum_any _ _).mono ?_; rintro x w' ⟨rfl, hw'⟩; rw [hw']; clear hw' w'
        refine hK.out _ _ ⟨⟨HS12.out.up5.cell 0, HS12.out.up5.cell 1, HS12.out.up5.cell 2, HS12.out.up5.cell 3⟩, ⟨HS12.out.up2.cell 0, HS12.out.up2.cell 1, HS12.out.up2.cell 2, HS12.out.up2.cell 3⟩, HS12.out.chg.cell Z4.out id⟩ (fun hS0 => ?_)
        clear hK K
        refine rgn_call (i := 16) rfl (by kernel_rfl) (fun K hK => ?_)
        go_simp
        go_at_call 22; (with_reducible refine (rputP r es hs PL HPR.out l[k].H ⟨(l[k].e.key.1, l[k].e.key.2.1, ck), (l[k].e.value.1, l[k].e.value.2.1, cv), l[k].e.seq, l[k].e.dead⟩ ee HEe2.out HS12.out.up6 HD.out.len hnl (HEr2.out _ HS12.out.chg) hckl hcvl HHt.out).mono ?_); rintro x w14 ⟨es', hs', rfl, hl', ha', hs14⟩; rw [HCo.out]; have HL' := Lib.hid hl'; have HA' := Lib.hid ha'; have HS14 := Lib.hid hs14; clear hl' ha' hs14
        refine hK.out _ _ ⟨⟨HS14.out.up6.cell 0, HS14.out.up6.cell 1, HS14.out.up6.cell 2, HS14.out.up6.cell 3⟩, ⟨HS14.out.up3.cell 0, HS14.out.up3.cell 1, HS14.out.up3.cell 2, HS14.out.up3.cell 3⟩, HS14.out.chg.cell Z4.out id⟩ (fun hS0 => ?_)
        clear hK K
        refine rgn_take (i := 17) (v := ?rv28) rfl (by kernel_rfl) (by kernel_rfl) (by kernel_rfl) (fun _ _ _ h => h) (by rfl) ?rh28 (by assumption) ?rr28
        case rh28 => (intro w hSw; (try dsimp only at hSw); go_simp; try with_reducible rfl)
        simp only [Act.put, List.setIfInBounds_toArray, List.set_cons_zero, List.set_cons_succ]
        refine rgn_take (i := 18) (v := ?rv29) rfl (by kernel_rfl) (by kernel_rfl) (by kernel_rfl) (fun _ _ _ h => h) (by rfl) ?rh29 (by assumption) ?rr29
        case rh29 => (intro w hSw; (try dsimp only at hSw); go_simp; try with_reducible rfl)
        simp only [Act.put, List.setIfInBounds_toArray, List.set_cons_zero, List.set_cons_succ]
        refine rgn_take (i := 19) (v := ?rv30) rfl (by kernel_rfl) (by kernel_rfl) (by kernel_rfl) (fun _ _ _ h => h) (by rfl) ?rh30 (by assumption) ?rr30
        case rh30 => (intro w hSw; (try dsimp only at hSw); go_simp; try with_reducible rfl)
        simp only [Act.put, List.setIfInBounds_toArray, List.set_cons_zero, List.set_cons_succ]
        refine rgn_take (i := 20) (v := ?rv31) rfl (by kernel_rfl) (by kernel_rfl) (by kernel_rfl) (fun _ _ _ h => h) (by rfl) ?rh31 (by assumption) ?rr31
        case rh31 => (intro w hSw; (try dsimp only at hSw); go_simp; try with_reducible rfl)
        simp only [Act.put, List.setIfInBounds_toArray, List.set_cons_zero, List.set_cons_succ]
        refine rgn_take (i := 21) (v := ?rv32) rfl (by kernel_rfl) (by kernel_rfl) (by kernel_rfl) (fun _ _ _ h => h) (by rfl) ?rh32 (by assumption) ?rr32
        case rh32 => (intro w hSw; (try dsimp only at hSw); go_simp; try with_reducible rfl)
        simp only [Act.put, List.setIfInBounds_toArray, List.set_cons_zero, List.set_cons_succ]
        refine rgn_take (i := 22) (v := ?rv33) rfl (by kernel_rfl) (by kernel_rfl) (by kernel_rfl) (fun _ _ _ h => h) (by rfl) ?rh33 (by assumption) ?rr33
        case rh33 => (intro w hSw; (try dsimp only at hSw); go_simp; try with_reducible rfl)
        simp only [Act.put, List.setIfInBounds_toArray, List.set_cons_zero, List.set_cons_succ]
        refine rgn_call (i := 23) rfl (by kernel_rfl) (fun K hK => ?_)
        go_simp
        go_at_call 23; (with_reducible refine (backS g1 (l[k].e.key.1, l[k].e.key.2.1, ck) HS14.out.up5 (HEk.out _ HS14.out.chg).1 (by simp only []; omega)).mono ?_); rintro x w15 ⟨rfl, hs15⟩; have HS15 := Lib.hid hs15; clear hs15
        refine hK.out _ _ ⟨⟨HS15.out.up5.cell 0, HS15.out.up5.cell 1, HS15.out.up5.cell 2, HS15.out.up5.cell 3⟩, ⟨HS15.out.up3.cell 0, HS15.out.up3.cell 1, HS15.out.up3.cell 2, HS15.out.up3.cell 3⟩, HS15.out.chg.cell Z4.out id⟩ (fun hS0 => ?_)
        clear hK K
        refine rgn_take (i := 24) (v := ?rv35) rfl (by kernel_rfl) (by kernel_rfl) (by kernel_rfl) (fun _ _ _ h => h) (by rfl) ?rh35 (by assumption) ?rr35
        case rh35 => (intro w hSw; (try dsimp only at hSw); go_simp; try with_reducible rfl)
        simp only [Act.put, List.setIfInBounds_toArray, List.set_cons_zero, List.set_cons_succ]
        refine rgn_take (i := 25) (v := ?rv36) rfl (by kernel_rfl) (by kernel_rfl) (by kernel_rfl) (fun _ _ _ h => h) (by rfl) ?rh36 (by assumption) ?rr36
        case rh36 => (intro w hSw; (try dsimp only at hSw); go_simp; try with_reducible rfl)
        simp only [Act.put, List.setIfInBounds_toArray, List.set_cons_zero, List.set_cons_succ]
        refine rgn_take (i := 26) (v := ?rv37) rfl (by kernel_rfl) (by kernel_rfl) (by kernel_rfl) (fun _ _ _ h => h) (by rfl) ?rh37 (by assumption) ?rr37
        case rh37 => (intro w hSw; (try dsimp only at hSw); go_simp; try with_reducible rfl)
        simp only [Act.put, List.setIfInBounds_toArray, List.set_cons_zero, List.set_cons_succ]
        refine rgn_take (i := 27) (v := ?rv38) rfl (by kernel_rfl) (by kernel_rfl) (by kernel_rfl) (fun _ _ _ h => h) (by rfl) ?rh38 (by assumption) ?rr38
        case rh38 => (intro w hSw; (try dsimp only at hSw); go_simp; try with_reducible rfl)
        simp only [Act.put, List.setIfInBounds_toArray, List.set_cons_zero, List.set_cons_succ]
        refine rgn_take (i := 28) (v := ?rv39) rfl (by kernel_rfl) (by kernel_rfl) (by kernel_rfl) (fun _ _ _ h => h) (by rfl) ?rh39 (by assumption) ?rr39
        case rh39 => (intro w hSw; (try dsimp only at hSw); go_simp; try with_reducible rfl)
        simp only [Act.put, List.setIfInBounds_toArray, List.set_cons_zero, List.set_cons_succ]
        refine rgn_take (i := 29) (v := ?rv40) rfl (by kernel_rfl) (by kernel_rfl) (by kernel_rfl) (fun _ _ _ h => h) (by rfl) ?rh40 (by assumption) ?rr40
        case rh40 => (intro w hSw; (try dsimp only at hSw); go_simp; try with_reducible rfl)
        simp only [Act.put, List.setIfInBounds_toArray, List.set_cons_zero, List.set_cons_succ]
        refine rgn_take (i := 30) (v := ?rv41) rfl (by kernel_rfl) (by kernel_rfl) (by kernel_rfl) (fun _ _ _ h => h) (by rfl) ?rh41 (by assumption) ?rr41
        case rh41 => (intro w hSw; (try dsimp only at hSw); go_simp; try with_reducible rfl)
        simp only [Act.put, List.setIfInBounds_toArray, List.set_cons_zero, List.set_cons_succ]
        refine rgn_call (i := 31) rfl (by kernel_rfl) (fun K hK => ?_)
        go_simp
        go_at_call 23; (with_reducible refine (backS g2 (l[k].e.value.1, l[k].e.value.2.1, cv) HS15.out.up4 (HEk.out _ HS15.out.chg).2 (by simp only []; omega)).mono ?_); rintro x w16 ⟨rfl, hs16⟩; have HS16 := Lib.hid hs16; clear hs16
        refine hK.out _ _ ⟨⟨HS16.out.up4.cell 0, HS16.out.up4.cell 1, HS16.out.up4.cell 2, HS16.out.up4.cell 3⟩, ⟨HS16.out.up3.cell 0, HS16.out.up3.cell 1, HS16.out.up3.cell 2, HS16.out.up3.cell 3⟩, HS16.out.chg.cell Z4.out id⟩ (fun hS0 => ?_)
        clear hK K
        refine rgn_take (i := 32) (v := ?rv43) rfl (by kernel_rfl) (by kernel_rfl) (by kernel_rfl) (fun _ _ _ h => h) (by rfl) ?rh43 (by assumption) ?rr43
        case rh43 => (intro w hSw; (try dsimp only at hSw); go_simp; try with_reducible rfl)
        simp only [Act.put, List.setIfInBounds_toArray, List.set_cons_zero, List.set_cons_succ]
        refine rgn_take (i := 33) (v := ?rv44) rfl (by kernel_rfl) (by kernel_rfl) (by kernel_rfl) (fun _ _ _ h => h) (by rfl) ?rh44 (by assumption) ?rr44
        case rh44 => (intro w hSw; (try dsimp only at hSw); go_simp; try with_reducible rfl)
        simp only [Act.put, List.setIfInBounds_toArray, List.set_cons_zero, List.set_cons_succ]
        refine wpAnyH_done (by kernel_rfl) ?_ _
        go_wp2_with fail
        clear e0 e1 e2 e3 q0 q1 q2 q3 z4
        have habs : absR es' hs' = absL ns' := HA'.out.trans (by rw [HA7.out, HPL.out])
        have hab := absR_absL HL'.out habs
        have hs16 : Sat w (RTab r es' hs' * (SkipT b hr ns' * Emp)) w16 := HS16.out.of (by rfl) |>.up3.right.up3.right
        obtain ⟨vL, vH, hs17⟩ := hs16.rtab
        obtain ⟨LA, lc, rfl, hl1, hl2, hl3⟩ := ((hs17.of (rtab_d ..)).up2).row_form
        have c0 := hs17.rtabL
        have HS17 := Lib.hid hs17
        have HAb := Lib.hid habs
        have HF1 : Hid (fsts ns' = es'.map En.ent) := hab.1.symm
        have HN1 : Hid (ns'.length = es'.length) := hab.2.symm
        have hnl2 : es'.length ≤ 1000 := by have h2 := HT7.out.len; have := hab.2; omega
        have HSh : Hid (∀ x ∈ es', x.key.2.2.length ≤ 1000000 ∧ x.value.2.2.length ≤ 1000000) := (PlayS.mk HT7.out HL'.out habs hs16.up2).short
        clear hs16 hs17 habs hab hl3 HS16 HS15 HS14 HS12 HS11
        refine wp_region_held_drew (S := fun w' => w'.cell? ⟨r, 0, none⟩ = some (.slice LA es'.length lc)) (by kernel_rfl) c0 ?_
        intro hS0
        refine rgn_take (i := 0) (v := ?rv45) rfl (by kernel_rfl) (by kernel_rfl) (by kernel_rfl) (fun _ _ _ h => h) (by rfl) ?rh45 (by assumption) ?rr45
        case rh45 => (intro w hSw; (try dsimp only at hSw); go_simp; try with_reducible rfl)
        simp only [Act.put, List.setIfInBounds_toArray, List.set_cons_zero, List.set_cons_succ]
        refine rgn_take (i := 2) (v := ?rv46) rfl (by kernel_rfl) (by kernel_rfl) (by kernel_rfl) (fun _ _ _ h => h) (by rfl) ?rh46 (by assumption) ?rr46
        case rh46 => (intro w hSw; (try dsimp only at hSw); go_simp; try with_reducible rfl)
        simp only [Act.put, List.setIfInBounds_toArray, List.set_cons_zero, List.set_cons_succ]
        refine rgn_take (i := 3) (v := ?rv47) rfl (by kernel_rfl) (by kernel_rfl) (by kernel_rfl) (fun _ _ _ h => h) (by rfl) ?rh47 (by assumption) ?rr47
        case rh47 => (intro w hSw; (try dsimp only at hSw); go_simp; try with_reducible rfl)
        simp only [Act.put, List.setIfInBounds_toArray, List.set_cons_zero, List.set_cons_succ]
        refine rgn_take (i := 4) (v := ?rv48) rfl (by kernel_rfl) (by kernel_rfl) (by kernel_rfl) (fun _ _ _ h => h) (by rfl) ?rh48 (by assumption) ?rr48
        case rh48 => (intro w hSw; (try dsimp only at hSw); go_simp; try with_reducible rfl)
        simp only [Act.put, List.setIfInBounds_toArray, List.set_cons_zero, List.set_cons_succ]
        refine rgn_take (i := 5) (v := ?rv49) rfl (by kernel_rfl) (by kernel_rfl) (by kernel_rfl) (fun _ _ _ h => h) (by rfl) ?rh49 (by assumption) ?rr49
        case rh49 => (intro w hSw; (try dsimp only at hSw); go_simp; try with_reducible rfl)
        simp only [Act.put, List.setIfInBounds_toArray, List.set_cons_zero, List.set_cons_succ]
        refine rgn_take (i := 6) (v := ?rv50) rfl (by kernel_rfl) (by kernel_rfl) (by kernel_rfl) (fun _ _ _ h => h) (by rfl) ?rh50 (by assumption) ?rr50
        case rh50 => (intro w hSw; (try dsimp only at hSw); go_simp; try with_reducible rfl)
        simp only [Act.put, List.setIfInBounds_toArray, List.set_cons_zero, List.set_cons_succ]
        refine rgn_call (i := 1) rfl (by kernel_rfl) (fun K hK => ?_)
        go_simp
        go_at_call 24; (with_reducible refine (lenT_any es'.length HN1.out HS17.out.drew.up2).mono ?_); rintro x w18 ⟨rfl, rfl⟩
        refine hK.out _ _ (by exact c0) (fun hS0 => ?_)
        clear hK K
        refine rgn_take (i := 7) (v := ?rv52) rfl (by kernel_rfl) (by kernel_rfl) (by kernel_rfl) (fun _ _ _ h => h) (by rfl) ?rh52 (by assumption) ?rr52
        case rh52 => (intro w hSw; (try dsimp only at hSw); go_simp; try with_reducible rfl)
        simp only [Act.put, List.setIfInBounds_toArray, List.set_cons_zero, List.set_cons_succ]
        refine rgn_take (i := 8) (v := ?rv53) rfl (by kernel_rfl) (by kernel_rfl) (by kernel_rfl) (fun _ _ _ h => h) (by rfl) ?rh53 (by assumption) ?rr53
        case rh53 => (intro w hSw; (try dsimp only at hSw); go_simp; try with_reducible rfl)
        simp only [Act.put, List.setIfInBounds_toArray, List.set_cons_zero, List.set_cons_succ]
        refine rgn_take (i := 9) (v := ?rv54) rfl (by kernel_rfl) (by kernel_rfl) (by kernel_rfl) (fun _ _ _ h => h) (by rfl) ?rh54 (by assumption) ?rr54
        case rh54 => (intro w hSw; (try dsimp only at hSw); go_simp; try with_reducible rfl)
        simp only [Act.put, List.setIfInBounds_toArray, List.set_cons_zero, List.set_cons_succ]
        refine rgn_take (i := 11) (v := ?rv55) rfl (by kernel_rfl) (by kernel_rfl) (by kernel_rfl) (fun _ _ _ h => h) (by rfl) ?rh55 (by assumption) ?rr55
        case rh55 => (intro w hSw; (try dsimp only at hSw); go_simp; try with_reducible rfl)
        simp only [Act.put, List.setIfInBounds_toArray, List.set_cons_zero, List.set_cons_succ]
        refine rgn_call (i := 10) rfl (by kernel_rfl) (fun K hK => ?_)
        go_simp
        go_at_call 25; (with_reducible refine (bytT_any (es'.map En.ent) HF1.out HS17.out.drew.up2).mono ?_); rintro x w18 ⟨rfl, rfl⟩
        refine hK.out _ _ (by exact c0) (fun hS0 => ?_)
        clear hK K
        refine rgn_call (i := 12) rfl (by kernel_rfl) (fun K hK => ?_)
        go_simp
        go_at_call 26; refine (rbytes_any r es' hs' w _ _ HS17.out.drew.rtabI hnl2 HSh.out).mono ?_; rintro x w19 ⟨rfl, k19⟩; have HS19 := Lib.hid (HS17.out.drew.new k19); clear k19
        refine hK.out _ _ HS19.out.rtabL (fun hS0 => ?_)
        clear hK K
        refine rgn_take (i := 13) (v := ?rv58) rfl (by kernel_rfl) (by kernel_rfl) (by kernel_rfl) (fun _ _ _ h => h) (by rfl) ?rh58 (by assumption) ?rr58
        case rh58 => (intro w hSw; (try dsimp only at hSw); go_simp; try with_reducible rfl)
        simp only [Act.put, List.setIfInBounds_toArray, List.set_cons_zero, List.set_cons_succ]
        refine rgn_take (i := 14) (v := ?rv59) rfl (by kernel_rfl) (by kernel_rfl) (by kernel_rfl) (fun _ _ _ h => h) (by rfl) ?rh59 (by assumption) ?rr59
        case rh59 => (intro w hSw; (try dsimp only at hSw); go_simp; try with_reducible rfl)
        simp only [Act.put, List.setIfInBounds_toArray, List.set_cons_zero, List.set_cons_succ]
        refine wpAnyH_done (by kernel_rfl) ?_ _
        go_wp2_with fail
        go_roundw
        · exact ⟨k + 1, ns', es', hs', by omega, by omega, by push_cast; rfl, HT7.out, HL'.out, HAb.out, HS19.out.rtabI.up2⟩
        · simp [intOf]; omega
      · have hor : (l.length ≤ k) ∨ (k < l.length ∧ 80 ≤ k) := by omega
        clear hx
        rcases hor with hx | ⟨hx, hx2⟩
        all_goals
          go_wp2_with fail
          go_meet
          exact ⟨k, ns, es, hs, hk80, rfl, HD.out⟩
  case rest =>
    obtain ⟨k, ns, es, hs, hk80, rfl, HD⟩ := hcut
    obtain ⟨L, hL⟩ : ∃ L, fsts ns = L := ⟨_, rfl⟩
    have hEL : es.map En.ent = L := (absR_absL HD.out.len HD.out.abs).1.trans hL
    have HLm := Lib.hid hL
    have HEL := Lib.hid hEL
    have HSo : Hid (L.Pairwise LTE) := by unfold Hid; rw [← hL]; exact fsts_sort HD.out.tab.ok
    have HTab := Lib.hid HD.out.tab
    have HAbs := Lib.hid HD.out.abs
    have HLen := Lib.hid HD.out.len
    have HS0 := Lib.hid HD.out.sat
    have hkk : k ≤ 1000 := by omega
    have hnl : es.length ≤ 80 := by have h1 := (absR_absL HD.out.len HD.out.abs).2; have h2 := HD.out.tab.len; omega
    have HKr := Lib.hid HK.out.2.2.1
    clear hL hEL HD HS3
    go_upto_block 2 with fail
    go_cut [12] (fun _ wx => Hid (Sat w (SkipT b hr ns * (RTab r es hs * Emp)) wx))
    case first =>
      go_wp2_with fail
      go_loopw [12] (fun i wr => ∃ q : Nat, q ≤ 20 ∧ q ≤ ks.length ∧ i = .int .i64 q ∧ Hid (Sat w (SkipT b hr ns * (RTab r es hs * Emp)) wr)) (fun i _ => 20 - (intOf i).toNat)
      case atStart => exact ⟨0, by omega, by omega, rfl, HS0.out⟩
      case round =>
        obtain ⟨q, hq20, hqk, rfl, HD⟩ := hrel
        by_cases hx : q < ks.length ∧ q < 20
        · obtain ⟨hlt, h80⟩ := hx
          obtain ⟨⟨kb, ko, rfl, z0⟩, hkr⟩ := HKr.out.get hlt
          have Z0 := Lib.hid z0
          have HKq := Lib.hid hkr
          have a0 := HD.out.chg.cell z0 id
          clear z0 hkr
          go_upto_region 19 with (go_at_call 16; (with_reducible refine (getF_any ks[q] seq b hr ns k L w _ _ HLm.out HKq.out HD.out HTab.out hkk).mono ?_); rintro x w6 ⟨⟨g1, rfl, hg1, hgr1⟩, k6⟩; have HG1 := Lib.hid hg1; have HGR1 := Lib.hid hgr1; have HS6 := Lib.hid ((HD.out.new k6).allocPt 24 (enC g1)); have HK6 := Lib.hid k6; clear hg1 hgr1 k6)
          have HR1 := Lib.hid (HGR1.out.new ((Chg.refl No w6).alloc (.cells (enC g1) 24)))
          unfold enC at HS6 HR1
          obtain ⟨w7, hw7⟩ : ∃ w7, w7 = w6.alloc (.cells #[.slice g1.key.1 g1.key.2.2.length g1.key.2.1, .slice g1.value.1 g1.value.2.2.length g1.value.2.1, .int .i64 g1.seq, .bool g1.dead] 24) := ⟨_, rfl⟩
          rw [← hw7] at HS6 HR1
          rw [← hw7]
          clear hw7
          generalize w6.heap.size = G1 at *
          obtain ⟨vL, vH, hs17⟩ := (HS6.out.up3).rtab
          obtain ⟨LA, lc, rfl, hl1, hl2, hl3⟩ := ((hs17.of (rtab_d ..)).up2).row_form
          have hl2' := hl2
          unfold maxLen at hl2'
          have c0 := hs17.rtabL
          have HS17 := Lib.hid hs17
          have b0 := hs17.chg.cell Z0.out id
          clear hs17 hl3 a0
          have HRd : Hid (∀ x, Chg No w7 x → RdV x LA (es.flatMap enV)) := fun x hx => (HS17.out.rtabRd).new hx
          have HEs : Hid (∀ x, Chg No w7 x → EnsR x es) := fun x hx e he => (HS17.out.rtabEnt he).new hx
          have HKx : Hid (∀ x, Chg No w7 x → Rd x ks[q].1 ks[q].2.2) := fun x hx => (HKq.out.new HS17.out.chg).new hx
          go_cut [15, 16] (fun a c wx => ∃ (G2 : Nat) (g2 : En), a = .pointer (some ⟨G2, 0, none⟩) ∧ c = .bool ((getL ks[q].2.2 seq L).isSome) ∧ Hid (g2.ent = (getL ks[q].2.2 seq L).getD noE ∧ EnR wx g2 ∧ EnR wx g1 ∧ Sat w (Pt G2 24 (enC g2) * (Pt G1 24 (enC g1) * (SkipT b hr ns * (RTab r es hs * Emp)))) wx))
          case first =>
            refine wp_region_held_drew (S := fun w' => w'.cell? ⟨r, 0, none⟩ = some (.slice LA es.length lc) ∧ w'.cell? ⟨kb, ko + q, none⟩ = some (.slice ks[q].1 ks[q].2.2.length ks[q].2.1)) (by kernel_rfl) ⟨c0, b0⟩ ?_
            intro hS0
            refine rgn_take (i := 0) (v := ?rv60) rfl (by kernel_rfl) (by kernel_rfl) (by kernel_rfl) (fun _ _ _ h => h) (by rfl) ?rh60 (by assumption) ?rr60
            case rh60 => (intro w hSw; (try dsimp only at hSw); go_simp; try with_reducible rfl)
            simp only [Act.put, List.setIfInBounds_toArray, List.set_cons_zero, List.set_cons_succ]
            refine rgn_take (i := 1) (v := ?rv61) rfl (by kernel_rfl) (by kernel_rfl) (by kernel_rfl) (fun _ _ _ h => h) (by rfl) ?rh61 (by assumption) ?rr61
            case rh61 => (intro w hSw; (try dsimp only at hSw); go_simp; try with_reducible rfl)
            simp only [Act.put, List.setIfInBounds_toArray, List.set_cons_zero, List.set_cons_succ]
            refine rgn_take (i := 2) (v := ?rv62) rfl (by kernel_rfl) (by kernel_rfl) (by kernel_rfl) (fun _ _ _ h => h) (by rfl) ?rh62 (by assumption) ?rr62
            case rh62 => (intro w hSw; (try dsimp only at hSw); go_simp; try with_reducible rfl)
            simp only [Act.put, List.setIfInBounds_toArray, List.set_cons_zero, List.set_cons_succ]
            refine rgn_take (i := 3) (v := ?rv63) rfl (by kernel_rfl) (by kernel_rfl) (by kernel_rfl) (fun _ _ _ h => h) (by rfl) ?rh63 (by assumption) ?rr63
            case rh63 => (intro w hSw; (try dsimp only at hSw); go_simp; try with_reducible rfl)
            simp only [Act.put, List.setIfInBounds_toArray, List.set_cons_zero, List.set_cons_succ]
            refine rgn_take (i := 4) (v := ?rv64) rfl (by kernel_rfl) (by kernel_rfl) (by kernel_rfl) (fun _ _ _ h => h) (by rfl) ?rh64 (by assumption) ?rr64
            case rh64 => (intro w hSw; (try dsimp only at hSw); go_simp; try with_reducible rfl)
            simp only [Act.put, List.setIfInBounds_toArray, List.set_cons_zero, List.set_cons_succ]
            refine rgn_take (i := 5) (v := ?rv65) rfl (by kernel_rfl) (by kernel_rfl) (by kernel_rfl) (fun _ _ _ h => h) (by rfl) ?rh65 (by assumption) ?rr65
            case rh65 => (intro w hSw; (try dsimp only at hSw); go_simp; try with_reducible rfl)
            simp only [Act.put, List.setIfInBounds_toArray, List.set_cons_zero, List.set_cons_succ]
            refine rgn_take (i := 6) (v := ?rv66) rfl (by kernel_rfl) (by kernel_rfl) (by kernel_rfl) (fun _ _ _ h => h) (by rfl) ?rh66 (by assumption) ?rr66
            case rh66 => (intro w hSw; (try dsimp only at hSw); go_simp; try with_reducible rfl)
            simp only [Act.put, List.setIfInBounds_toArray, List.set_cons_zero, List.set_cons_succ]
            refine rgn_take (i := 7) (v := ?rv67) rfl (by kernel_rfl) (by kernel_rfl) (by kernel_rfl) (fun _ _ _ h => h) (by rfl) ?rh67 (by assumption) ?rr67
            case rh67 => (intro w hSw; (try dsimp only at hSw); go_simp; try with_reducible rfl)
            simp only [Act.put, List.setIfInBounds_toArray, List.set_cons_zero, List.set_cons_succ]
            refine rgn_take (i := 8) (v := ?rv68) rfl (by kernel_rfl) (by kernel_rfl) (by kernel_rfl) (fun _ _ _ h => h) (by rfl) ?rh68 (by assumption) ?rr68
            case rh68 => (intro w hSw; (try dsimp only at hSw); go_simp; try with_reducible rfl)
            simp only [Act.put, List.setIfInBounds_toArray, List.set_cons_zero, List.set_cons_succ]
            refine rgn_both (i := 9) (j := 13) rfl rfl (by kernel_rfl) (fun K hK => ?_) (fun K hK => ?_)
            ·
              go_simp
              go_at_call 27; (with_reducible refine (rgetL LA lc es L HEL.out HSo.out ks[q] seq _ (HRd.out _ ((Chg.refl No w7).drew)) (HEs.out _ ((Chg.refl No w7).drew)) (HKx.out _ ((Chg.refl No w7).drew)) hl1 hl2).mono ?_); rintro x w8 ⟨⟨g2, rfl, hg2, _, hgm⟩, k8⟩; have HG2 := Lib.hid hg2; have HGM := Lib.hid hgm; have HC8 := Lib.hid ((((Chg.refl No w7).drew)).tr k8); have HK8 := Lib.hid k8; clear hg2 hgm k8
              refine hK.out _ _ ⟨(HC8.out).cell c0 id, (HC8.out).cell b0 id⟩ (fun hS0 => ?_)
              clear hK K
              refine rgn_take (i := 10) (v := ?rv70) rfl (by kernel_rfl) (by kernel_rfl) (by kernel_rfl) (fun _ _ _ h => h) (by rfl) ?rh70 (by assumption) ?rr70
              case rh70 => (intro w hSw; (try dsimp only at hSw); go_simp; try with_reducible rfl)
              simp only [Act.put, List.setIfInBounds_toArray, List.set_cons_zero, List.set_cons_succ]
              refine rgn_take (i := 11) (v := ?rv71) rfl (by kernel_rfl) (by kernel_rfl) (by kernel_rfl) (fun _ _ _ h => h) (by rfl) ?rh71 (by assumption) ?rr71
              case rh71 => (intro w hSw; (try dsimp only at hSw); go_simp; try with_reducible rfl)
              simp only [Act.put, List.setIfInBounds_toArray, List.set_cons_zero, List.set_cons_succ]
              refine rgn_take (i := 12) (v := ?rv72) rfl (by kernel_rfl) (by kernel_rfl) (by kernel_rfl) (fun _ _ _ h => h) (by rfl) ?rh72 (by assumption) ?rr72
              case rh72 => (intro w hSw; (try dsimp only at hSw); go_simp; try with_reducible rfl)
              simp only [Act.put, List.setIfInBounds_toArray, List.set_cons_zero, List.set_cons_succ]
              refine rgn_call (i := 13) rfl (by kernel_rfl) (fun K hK => ?_)
              go_simp
              refine hK.out _ _ ⟨(HC8.out.alloc (.cells #[.slice none 0 0, .slice none 0 0, .int .i64 0, .bool false] 24)).cell c0 id, (HC8.out.alloc (.cells #[.slice none 0 0, .slice none 0 0, .int .i64 0, .bool false] 24)).cell b0 id⟩ (fun hS0 => ?_)
              clear hK K
              refine rgn_call (i := 14) rfl (by kernel_rfl) (fun K hK => ?_)
              go_simp
              have hz4 := (HS17.out.new HC8.out).allocPt 24 #[.slice g2.key.1 g2.key.2.2.length g2.key.2.1, .slice g2.value.1 g2.value.2.2.length g2.value.2.1, .int .i64 g2.seq, .bool g2.dead]; have HCF := Lib.hid (HC8.out.alloc (.cells #[.slice g2.key.1 g2.key.2.2.length g2.key.2.1, .slice g2.value.1 g2.value.2.2.length g2.value.2.1, .int .i64 g2.seq, .bool g2.dead] 24))
              refine hK.out _ _ ⟨hz4.up2.rtabL, hz4.chg.cell Z0.out id⟩ (fun hS0 => ?_)
              clear hK K
              refine rgn_take (i := 15) (v := ?rv75) rfl (by kernel_rfl) (by kernel_rfl) (by kernel_rfl) (fun _ _ _ h => h) (by rfl) ?rh75 (by assumption) ?rr75
              case rh75 => (intro w hSw; (try dsimp only at hSw); go_simp; try with_reducible rfl)
              simp only [Act.put, List.setIfInBounds_toArray, List.set_cons_zero, List.set_cons_succ]
              refine wpAnyH_done (by kernel_rfl) ?_ _
              go_wp2_with fail
              go_meet
              have hzz : Sat w (Pt _ 24 (enC g2) * (RTabC r (.slice LA es.length lc) vH es hs * (Pt G1 24 (enC g1) * (SkipT b hr ns * Emp)))) _ := hz4
              have hy := hzz.up2.rtabI
              exact ⟨_, g2, rfl, rfl, HG2.out, HGM.out.elim (HEs.out _ HCF.out _) (fun q => by rw [q]; exact ⟨Rd.nil _ _, Rd.nil _ _⟩), HR1.out.new HCF.out, hy.dn4⟩
            ·
              go_simp
              have hz0 := (HS17.out.allocPt 24 #[.slice none 0 0, .slice none 0 0, .int .i64 0, .bool false]).drew
              refine hK.out _ _ ⟨((((Chg.refl No w7).alloc (.cells #[.slice none 0 0, .slice none 0 0, .int .i64 0, .bool false] 24)).drew)).cell c0 id, ((((Chg.refl No w7).alloc (.cells #[.slice none 0 0, .slice none 0 0, .int .i64 0, .bool false] 24)).drew)).cell b0 id⟩ (fun hS0 => ?_)
              clear hK K
              refine rgn_call (i := 9) rfl (by kernel_rfl) (fun K hK => ?_)
              go_simp
              go_at_call 27; (with_reducible refine (rgetL LA lc es L HEL.out HSo.out ks[q] seq _ (HRd.out _ (((Chg.refl No w7).alloc (.cells #[.slice none 0 0, .slice none 0 0, .int .i64 0, .bool false] 24)).drew)) (HEs.out _ (((Chg.refl No w7).alloc (.cells #[.slice none 0 0, .slice none 0 0, .int .i64 0, .bool false] 24)).drew)) (HKx.out _ (((Chg.refl No w7).alloc (.cells #[.slice none 0 0, .slice none 0 0, .int .i64 0, .bool false] 24)).drew)) hl1 hl2).mono ?_); rintro x w8 ⟨⟨g2, rfl, hg2, _, hgm⟩, k8⟩; have HG2 := Lib.hid hg2; have HGM := Lib.hid hgm; have HC8 := Lib.hid (((((Chg.refl No w7).alloc (.cells #[.slice none 0 0, .slice none 0 0, .int .i64 0, .bool false] 24)).drew)).tr k8); have HK8 := Lib.hid k8; clear hg2 hgm k8; have hz := hz0.new HK8.out; have x0 := hz.cell 0; have x1 := hz.cell 1; have x2 := hz.cell 2; have x3 := hz.cell 3; have f0 := hz.frozen 0; have f1 := hz.frozen 1; have f2 := hz.frozen 2; have f3 := hz.frozen 3
              refine hK.out _ _ ⟨(HC8.out).cell c0 id, (HC8.out).cell b0 id⟩ (fun hS0 => ?_)
              clear hK K
              refine rgn_take (i := 10) (v := ?rv77) rfl (by kernel_rfl) (by kernel_rfl) (by kernel_rfl) (fun _ _ _ h => h) (by rfl) ?rh77 (by assumption) ?rr77
              case rh77 => (intro w hSw; (try dsimp only at hSw); go_simp; try with_reducible rfl)
              simp only [Act.put, List.setIfInBounds_toArray, List.set_cons_zero, List.set_cons_succ]
              refine rgn_take (i := 11) (v := ?rv78) rfl (by kernel_rfl) (by kernel_rfl) (by kernel_rfl) (fun _ _ _ h => h) (by rfl) ?rh78 (by assumption) ?rr78
              case rh78 => (intro w hSw; (try dsimp only at hSw); go_simp; try with_reducible rfl)
              simp only [Act.put, List.setIfInBounds_toArray, List.set_cons_zero, List.set_cons_succ]
              refine rgn_take (i := 12) (v := ?rv79) rfl (by kernel_rfl) (by kernel_rfl) (by kernel_rfl) (fun _ _ _ h => h) (by rfl) ?rh79 (by assumption) ?rr79
              case rh79 => (intro w hSw; (try dsimp only at hSw); go_simp; try with_reducible rfl)
              simp only [Act.put, List.setIfInBounds_toArray, List.set_cons_zero, List.set_cons_succ]
              refine rgn_call (i := 14) rfl (by kernel_rfl) (fun K hK => ?_)
              go_simp
              have hz4 := (((hz.set 0 (.slice g2.key.1 g2.key.2.2.length g2.key.2.1)).set 1 (.slice g2.value.1 g2.value.2.2.length g2.value.2.1)).set 2 (.int .i64 g2.seq)).set 3 (.bool g2.dead); have HCF := Lib.hid ((((HC8.out.setCell (p := ⟨w7.heap.size, 0, none⟩) (fun h => absurd h (Nat.lt_irrefl _)) (.slice g2.key.1 g2.key.2.2.length g2.key.2.1)).setCell (p := ⟨w7.heap.size, 1, none⟩) (fun h => absurd h (Nat.lt_irrefl _)) (.slice g2.value.1 g2.value.2.2.length g2.value.2.1)).setCell (p := ⟨w7.heap.size, 2, none⟩) (fun h => absurd h (Nat.lt_irrefl _)) (.int .i64 g2.seq)).setCell (p := ⟨w7.heap.size, 3, none⟩) (fun h => absurd h (Nat.lt_irrefl _)) (.bool g2.dead))
              refine hK.out _ _ ⟨hz4.up2.rtabL, hz4.chg.cell Z0.out id⟩ (fun hS0 => ?_)
              clear hK K
              refine rgn_take (i := 15) (v := ?rv81) rfl (by kernel_rfl) (by kernel_rfl) (by kernel_rfl) (fun _ _ _ h => h) (by rfl) ?rh81 (by assumption) ?rr81
              case rh81 => (intro w hSw; (try dsimp only at hSw); go_simp; try with_reducible rfl)
              simp only [Act.put, List.setIfInBounds_toArray, List.set_cons_zero, List.set_cons_succ]
              refine wpAnyH_done (by kernel_rfl) ?_ _
              go_wp2_with fail
              go_meet
              have hzz : Sat w (Pt _ 24 (enC g2) * (RTabC r (.slice LA es.length lc) vH es hs * (Pt G1 24 (enC g1) * (SkipT b hr ns * Emp)))) _ := hz4
              have hy := hzz.up2.rtabI
              exact ⟨_, g2, rfl, rfl, HG2.out, HGM.out.elim (HEs.out _ HCF.out _) (fun q => by rw [q]; exact ⟨Rd.nil _ _, Rd.nil _ _⟩), HR1.out.new HCF.out, hy.dn4⟩
          case rest =>
            obtain ⟨G2, g2, hx1, hx2, HG⟩ := hcut
            subst hx1
            subst hx2
            have HE12 : Hid (eqE g1.ent g2.ent = true) := by unfold Hid; rw [HG1.out, HG.out.1]; exact (eqE_iff _ _).2 rfl
            have HQ2 := Lib.hid HG.out.2.1
            have HQ1 := Lib.hid HG.out.2.2.1
            have HSq := Lib.hid HG.out.2.2.2
            have x0 := HSq.out.cell 0; have x1 := HSq.out.cell 1; have x2 := HSq.out.cell 2; have x3 := HSq.out.cell 3
            have y0 := HSq.out.up2.cell 0; have y1 := HSq.out.up2.cell 1; have y2 := HSq.out.up2.cell 2; have y3 := HSq.out.up2.cell 3
            generalize (getL ks[q].2.2 seq L).isSome = ok at *
            clear c0 b0
            go_upto_region 22 with (go_at_call 18; (with_reducible refine (sameS g1 g2 true HE12.out HSq.out HQ1.out HQ2.out).mono ?_); rintro x w9 ⟨rfl, hs9, k9⟩; have HS9 := Lib.hid hs9; clear hs9 k9)
            obtain ⟨j, hjd⟩ : ∃ j, j = (q + 1) % ks.length := ⟨_, rfl⟩
            have hjl : j < ks.length := by rw [hjd]; exact Nat.mod_lt _ (by omega)
            obtain ⟨⟨kb', ko', hkb, zj⟩, hkj⟩ := HKr.out.get hjl
            injection hkb with hkb
            injection hkb with hk1' hk2'
            subst hk1'
            subst hk2'
            have HKj := Lib.hid hkj
            have c5 := HS9.out.chg.cell zj id
            have m1 : IntKind.i64.wrap ((q : Int) + 1) = (q : Int) + 1 := by rw [IntKind.wrap_i64]; omega
            have m2 : ((q : Int) + 1) % (ks.length : Int) = (j : Int) := by rw [hjd]; push_cast; rfl
            have m3 : ¬ (ks.length : Int) = 0 := by omega
            have m4 : (j : Int) < ks.length := by omega
            clear hkj zj hjd
            go_upto_region 23 with fail
            clear m1 m2 m3 x0 x1 x2 x3 y0 y1 y2 y3 c5
            obtain ⟨vL2, vH2, hs20⟩ := (HS9.out.right.right.up2).rtab
            obtain ⟨LA2, lc2, rfl, hl4, hl5, hl6⟩ := ((hs20.of (rtab_d ..)).up2).row_form
            have hl5' := hl5
            unfold maxLen at hl5'
            have c0 := hs20.rtabL
            have b0 := hs20.chg.cell Z0.out id
            have HS20 := Lib.hid hs20
            have HF2 : Hid (∀ x, Chg No w9 x → RdV x LA2 (es.flatMap enV) ∧ EnsR x es) := fun x hx => ⟨(HS20.out.rtabRd).new hx, fun e he => (HS20.out.rtabEnt he).new hx⟩
            have HAl : Hid (∀ fs gs : List En, fs.map En.ent = rngL ks[q].2.2 ks[j].2.2 L → gs.map En.ent = rngL ks[q].2.2 ks[j].2.2 L → alikeB (fs.map En.ent) (gs.map En.ent) = true) := fun fs gs h1 h2 => (alike_iff _ _).2 (by rw [h1, h2])
            have HEL2 : Hid (rngL ks[q].2.2 ks[j].2.2 (es.map En.ent) = rngL ks[q].2.2 ks[j].2.2 L) := by rw [HEL.out]; rfl
            have hes6 : es.length ≤ 1000000 := by omega
            clear hs20 hl6
            refine wp_region_held_drew (S := fun w' => w'.cell? ⟨r, 0, none⟩ = some (.slice LA2 es.length lc2) ∧ w'.cell? ⟨kb, ko + q, none⟩ = some (.slice ks[q].1 ks[q].2.2.length ks[q].2.1)) (by kernel_rfl) ⟨c0, b0⟩ ?_
            intro hS0
            refine rgn_take (i := 0) (v := ?rv82) rfl (by kernel_rfl) (by kernel_rfl) (by kernel_rfl) (fun _ _ _ h => h) (by rfl) ?rh82 (by assumption) ?rr82
            case rh82 => (intro w hSw; (try dsimp only at hSw); go_simp; try with_reducible rfl)
            simp only [Act.put, List.setIfInBounds_toArray, List.set_cons_zero, List.set_cons_succ]
            refine rgn_take (i := 1) (v := ?rv83) rfl (by kernel_rfl) (by kernel_rfl) (by kernel_rfl) (fun _ _ _ h => h) (by rfl) ?rh83 (by assumption) ?rr83
            case rh83 => (intro w hSw; (try dsimp only at hSw); go_simp; try with_reducible rfl)
            simp only [Act.put, List.setIfInBounds_toArray, List.set_cons_zero, List.set_cons_succ]
            refine rgn_take (i := 2) (v := ?rv84) rfl (by kernel_rfl) (by kernel_rfl) (by kernel_rfl) (fun _ _ _ h => h) (by rfl) ?rh84 (by assumption) ?rr84
            case rh84 => (intro w hSw; (try dsimp only at hSw); go_simp; try with_reducible rfl)
            simp only [Act.put, List.setIfInBounds_toArray, List.set_cons_zero, List.set_cons_succ]
            refine rgn_take (i := 3) (v := ?rv85) rfl (by kernel_rfl) (by kernel_rfl) (by kernel_rfl) (fun _ _ _ h => h) (by rfl) ?rh85 (by assumption) ?rr85
            case rh85 => (intro w hSw; (try dsimp only at hSw); go_simp; try with_reducible rfl)
            simp only [Act.put, List.setIfInBounds_toArray, List.set_cons_zero, List.set_cons_succ]
            refine rgn_take (i := 4) (v := ?rv86) rfl (by kernel_rfl) (by kernel_rfl) (by kernel_rfl) (fun _ _ _ h => h) (by rfl) ?rh86 (by assumption) ?rr86
            case rh86 => (intro w hSw; (try dsimp only at hSw); go_simp; try with_reducible rfl)
            simp only [Act.put, List.setIfInBounds_toArray, List.set_cons_zero, List.set_cons_succ]
            refine rgn_take (i := 5) (v := ?rv87) rfl (by kernel_rfl) (by kernel_rfl) (by kernel_rfl) (fun _ _ _ h => h) (by rfl) ?rh87 (by assumption) ?rr87
            case rh87 => (intro w hSw; (try dsimp only at hSw); go_simp; try with_reducible rfl)
            simp only [Act.put, List.setIfInBounds_toArray, List.set_cons_zero, List.set_cons_succ]
            refine rgn_take (i := 7) (v := ?rv88) rfl (by kernel_rfl) (by kernel_rfl) (by kernel_rfl) (fun _ _ _ h => h) (by rfl) ?rh88 (by assumption) ?rr88
            case rh88 => (intro w hSw; (try dsimp only at hSw); go_simp; try with_reducible rfl)
            simp only [Act.put, List.setIfInBounds_toArray, List.set_cons_zero, List.set_cons_succ]
            refine rgn_take (i := 8) (v := ?rv89) rfl (by kernel_rfl) (by kernel_rfl) (by kernel_rfl) (fun _ _ _ h => h) (by rfl) ?rh89 (by assumption) ?rr89
            case rh89 => (intro w hSw; (try dsimp only at hSw); go_simp; try with_reducible rfl)
            simp only [Act.put, List.setIfInBounds_toArray, List.set_cons_zero, List.set_cons_succ]
            refine rgn_take (i := 9) (v := ?rv90) rfl (by kernel_rfl) (by kernel_rfl) (by kernel_rfl) (fun _ _ _ h => h) (by rfl) ?rh90 (by assumption) ?rr90
            case rh90 => (intro w hSw; (try dsimp only at hSw); go_simp; try with_reducible rfl)
            simp only [Act.put, List.setIfInBounds_toArray, List.set_cons_zero, List.set_cons_succ]
            refine rgn_take (i := 10) (v := ?rv91) rfl (by kernel_rfl) (by kernel_rfl) (by kernel_rfl) (fun _ _ _ h => h) (by rfl) ?rh91 (by assumption) ?rr91
            case rh91 => (intro w hSw; (try dsimp only at hSw); go_simp; try with_reducible rfl)
            simp only [Act.put, List.setIfInBounds_toArray, List.set_cons_zero, List.set_cons_succ]
            refine rgn_take (i := 11) (v := ?rv92) rfl (by kernel_rfl) (by kernel_rfl) (by kernel_rfl) (fun _ _ _ h => h) (by rfl) ?rh92 (by assumption) ?rr92
            case rh92 => (intro w hSw; (try dsimp only at hSw); go_simp; try with_reducible rfl)
            simp only [Act.put, List.setIfInBounds_toArray, List.set_cons_zero, List.set_cons_succ]
            refine rgn_take (i := 12) (v := ?rv93) rfl (by kernel_rfl) (by kernel_rfl) (by kernel_rfl) (fun _ _ _ h => h) (by rfl) ?rh93 (by assumption) ?rr93
            case rh93 => (intro w hSw; (try dsimp only at hSw); go_simp; try with_reducible rfl)
            simp only [Act.put, List.setIfInBounds_toArray, List.set_cons_zero, List.set_cons_succ]
            refine rgn_take (i := 13) (v := ?rv94) rfl (by kernel_rfl) (by kernel_rfl) (by kernel_rfl) (fun _ _ _ h => h) (by rfl) ?rh94 (by assumption) ?rr94
            case rh94 => (intro w hSw; (try dsimp only at hSw); go_simp; try with_reducible rfl)
            simp only [Act.put, List.setIfInBounds_toArray, List.set_cons_zero, List.set_cons_succ]
            refine rgn_take (i := 14) (v := ?rv95) rfl (by kernel_rfl) (by kernel_rfl) (by kernel_rfl) (fun _ _ _ h => h) (by rfl) ?rh95 (by assumption) ?rr95
            case rh95 => (intro w hSw; (try dsimp only at hSw); go_simp; try with_reducible rfl)
            simp only [Act.put, List.setIfInBounds_toArray, List.set_cons_zero, List.set_cons_succ]
            refine rgn_take (i := 15) (v := ?rv96) rfl (by kernel_rfl) (by kernel_rfl) (by kernel_rfl) (fun _ _ _ h => h) (by rfl) ?rh96 (by assumption) ?rr96
            case rh96 => (intro w hSw; (try dsimp only at hSw); go_simp; try with_reducible rfl)
            simp only [Act.put, List.setIfInBounds_toArray, List.set_cons_zero, List.set_cons_succ]
            refine rgn_call (i := 6) rfl (by kernel_rfl) (fun K hK => ?_)
            go_simp
            go_at_call 17; (with_reducible refine (rngF_any ks[q] ks[j] b hr ns k L w _ _ HLm.out (HKq.out.new HS20.out.drew.chg) (HKj.out.new HS20.out.drew.chg) HS20.out.drew.up2 HTab.out hkk).mono ?_); rintro x w21 ⟨fs, FA, fc, rfl, hfs, hfc, hfm, hfr, hfe, k21⟩; have HFS := Lib.hid hfs; have HFC := Lib.hid hfc; have HFM := Lib.hid hfm; have HFR := Lib.hid hfr; have HFE := Lib.hid hfe; have HC21 := Lib.hid ((Chg.refl No w9).drew.tr k21); have HS21 := Lib.hid (HS20.out.drew.new k21); clear hfs hfc hfm hfr hfe k21
            refine hK.out _ _ ⟨HS21.out.rtabL, HS21.out.chg.cell Z0.out id⟩ (fun hS0 => ?_)
            clear hK K
            refine rgn_call (i := 16) rfl (by kernel_rfl) (fun K hK => ?_)
            go_simp
            go_at_call 29; refine (rrange_any LA2 lc2 es ks[q] ks[j] _ (HF2.out _ HC21.out).1 (HF2.out _ HC21.out).2 (HKq.out.new HS21.out.chg) (HKj.out.new HS21.out.chg) hl4 hl5 hes6).mono ?_; rintro x w22 ⟨gs, GA, gc, rfl, hgs, hgc, hgm, hgr, hge, k22⟩; have HGS := Lib.hid (hgs.trans HEL2.out); have HGC := Lib.hid hgc; have HGMx := Lib.hid hgm; have HGR := Lib.hid hgr; have HGE := Lib.hid hge; have HFR2 := Lib.hid (HFR.out.new k22); have HFE2 := Lib.hid (HFE.out.new k22); have HC22 := Lib.hid (HC21.out.tr k22); have HS22 := Lib.hid (HS21.out.new k22); clear hgs hgc hgm hgr hge k22
            refine hK.out _ _ ⟨HS22.out.rtabL, HS22.out.chg.cell Z0.out id⟩ (fun hS0 => ?_)
            clear hK K
            refine rgn_call (i := 17) rfl (by kernel_rfl) (fun K hK => ?_)
            go_simp
            go_at_call 28; (with_reducible refine (alikeS FA GA fc gc fs gs true (HAl.out fs gs HFS.out HGS.out) HS22.out HFR2.out HFE2.out HGR.out HGE.out HFC.out HFM.out HGC.out HGMx.out).mono ?_); rintro x w23 ⟨rfl, hs23⟩; have HS23 := Lib.hid hs23; clear hs23
            refine hK.out _ _ ⟨HS23.out.rtabL, HS23.out.chg.cell Z0.out id⟩ (fun hS0 => ?_)
            clear hK K
            refine rgn_take (i := 18) (v := ?rv100) rfl (by kernel_rfl) (by kernel_rfl) (by kernel_rfl) (fun _ _ _ h => h) (by rfl) ?rh100 (by assumption) ?rr100
            case rh100 => (intro w hSw; (try dsimp only at hSw); go_simp; try with_reducible rfl)
            simp only [Act.put, List.setIfInBounds_toArray, List.set_cons_zero, List.set_cons_succ]
            refine wpAnyH_done (by kernel_rfl) ?_ _
            go_wp2_with fail
            go_roundw
            · exact ⟨q + 1, by omega, by omega, by push_cast; rfl, HS23.out.rtabI.up2⟩
            · simp [intOf]; omega
        · have hor : (ks.length ≤ q) ∨ (q < ks.length ∧ 20 ≤ q) := by omega
          clear hx
          rcases hor with hx | ⟨hx, hx2⟩
          all_goals
            go_wp2_with fail
            go_meet
            exact HD.out
    case rest =>
      have HS0b := hcut
      have HLv : Hid (∀ i : Int, i ≤ 8 → (if 0 ≤ i then levT i es hs es.length else []) = levM i (absL ns)) := fun i hi => lev_ref HTab.out.ok HLen.out HAbs.out i hi
      clear hcut
      go_wp2_with fail
      go_loopw [18] (fun i wr => ∃ q : Nat, q ≤ 10 ∧ i = .int .i64 ((q : Int) - 1) ∧ Hid (Sat w (SkipT b hr ns * (RTab r es hs * Emp)) wr)) (fun i _ => (9 - intOf i).toNat)
      case atStart => exact ⟨0, by omega, rfl, HS0b.out⟩
      case round =>
        obtain ⟨q, hq10, rfl, HD⟩ := hrel
        obtain ⟨i, hi⟩ : ∃ i : Int, i = (q : Int) - 1 := ⟨_, rfl⟩
        rw [← hi]
        by_cases hlt : i ≤ 8
        · have HLi : Hid ((if 0 ≤ i then levT i es hs es.length else []) = levM i (absL ns)) := HLv.out i hlt
          have HAl : Hid (∀ fs gs : List En, fs.map En.ent = levM i (absL ns) → gs.map En.ent = (if 0 ≤ i then levT i es hs es.length else []) → alikeB (fs.map En.ent) (gs.map En.ent) = true) := fun fs gs h1 h2 => (alike_iff _ _).2 (by rw [h1, h2, HLi.out])
          have hib : -9223372036854775808 ≤ i ∧ i ≤ 9223372036854775807 := by omega
          have hnl3 : es.length ≤ 1000 := by omega
          have Hib := Lib.hid hib
          have Hi := Lib.hid hi
          have hi0 : -1 ≤ i := by omega
          clear hib hi
          go_wp2_with (first
            | (go_at_call 30; (with_reducible refine (levO_any i b hr ns k w _ _ HD.out HTab.out hkk).mono ?_); rintro x w21 ⟨fs, FA, fc, rfl, hfs, hfc, hfm, hs21⟩; have HFS := Lib.hid hfs; have HFC := Lib.hid hfc; have HFM := Lib.hid hfm; have HS21 := Lib.hid hs21.up4; clear hfs hfc hfm hs21)
            | (go_at_call 31; (with_reducible refine (rlevel_any r es hs i w _ _ HS21.out HLen.out hnl3 Hib.out).mono ?_); rintro x w22 ⟨gs, GA, gc, rfl, hgs, hgc, hgm, hgr, hge, hs22⟩; have HGS := Lib.hid hgs; have HGC := Lib.hid hgc; have HGMx := Lib.hid hgm; have HGR := Lib.hid hgr; have HGE := Lib.hid hge; have HFR2 := Lib.hid (Sat.row_rdK (h := hs22.up2)); have HFE2 := Lib.hid (ownE_r hs22.up3); have HS22 := Lib.hid hs22; clear hgs hgc hgm hgr hge hs22)
            | (go_at_call 28; (with_reducible refine (alikeS FA GA fc gc fs gs true (HAl.out fs gs HFS.out HGS.out) HS22.out HFR2.out HFE2.out HGR.out HGE.out HFC.out HFM.out HGC.out HGMx.out).mono ?_); rintro x w23 ⟨rfl, hs23⟩; have HS23 := Lib.hid hs23; clear hs23))
          go_roundw
          · exact ⟨q + 1, by have := Hi.out; omega, by rw [Hi.out]; push_cast; congr 1; omega, HS23.out.drop2.drop2.up2⟩
          · simp [intOf]; omega
        · have hi9 : i = 9 := by omega
          go_upto_region 31 with fail
          have hbk := book_new (HD.out.allocPt 65 #[.slice none 0 0, .slice none 0 0, .slice none 0 0, .slice none 0 0, .slice none 0 0, .slice none 0 0])
          revert hbk
          generalize wr.alloc _ = w30
          generalize wr.heap.size = bk
          intro hbk
          have HB0 := Lib.hid hbk
          have HF0 : Hid (fsts ns = L) := HLm.out
          clear hbk
          go_wp2_with (go_at_call 17; (with_reducible refine (allO_any b hr ns k w _ _ HB0.out.up2 HTab.out hkk).mono ?_); rintro x w31 ⟨fs, FA, fc, rfl, hfs, hfc, hfm, hs31⟩; have HFS := Lib.hid hfs; have HFC := Lib.hid hfc; have HFM := Lib.hid hfm; have HS31 := Lib.hid hs31; clear hfs hfc hfm hs31)
          have hfl : fs.length ≤ 80 := by
            have h1 := congrArg List.length HFS.out
            rw [List.length_map, fsts_len] at h1
            have := HTab.out.len
            omega
          have HSh := Lib.hid (told_short HTab.out HFS.out)
          go_loopw [21] (fun i wq => ∃ q : Nat, q ≤ fs.length ∧ i = .int .i64 q ∧ Hid (Sat w (Row 24 4 (.slice FA fs.length fc) fs.length (fs.flatMap enV) * (OwnE (fs.drop q) * (BookP bk (eslc (fs.take q)) * (SkipT b hr ns * (RTab r es hs * Emp))))) wq)) (fun i _ => fs.length - (intOf i).toNat)
          case atStart => exact ⟨0, by omega, rfl, HS31.out.up4.dn3.of (by rfl)⟩
          case round =>
            obtain ⟨q, hqf, rfl, HD4⟩ := hrel
            by_cases hlt4 : q < fs.length
            · obtain ⟨fb, fo, rfl, -⟩ := ents_at (Sat.row_rdK (h := HD4.out)) (by omega)
              have z0 := (ents_cell HD4.out q hlt4).1
              have hsh := HSh.out _ (List.getElem_mem hlt4)
              have hel : (eslc (fs.take q)).length + 1 < 400 := by rw [eslc_len, List.length_take]; omega
              have h1 : Sat w (Row 5 1 (slOf fs[q].key) fs[q].key.2.2.length (fs[q].key.2.2.map bv) * (BookP bk (eslc (fs.take q)) * (Row 5 1 (slOf fs[q].value) fs[q].value.2.2.length (fs[q].value.2.2.map bv) * (OwnE (fs.drop (q + 1)) * (Row 24 4 (.slice (some ⟨fb, fo, none⟩) fs.length fc) fs.length (fs.flatMap enV) * (SkipT b hr ns * (RTab r es hs * Emp))))))) _ := HD4.out.of (by
                rw [List.drop_eq_getElem_cons hlt4]
                show Row _ _ _ _ _ * ((Row _ _ _ _ _ * (Row _ _ _ _ _ * OwnE _)) * (BookP _ _ * (SkipT b hr ns * (RTab r es hs * Emp)))) = Row _ _ _ _ _ * (BookP _ _ * (Row _ _ _ _ _ * (OwnE _ * (Row _ _ _ _ _ * (SkipT b hr ns * (RTab r es hs * Emp))))))
                ac_rfl)
              have H1 := Lib.hid h1
              clear h1
              go_wp2_with (first
                | (go_at_call 32; (with_reducible refine (bookS_bytes bk (eslc (fs.take q)) fs[q].key w _ _ H1.out (by omega) (by omega)).mono ?_); rintro x w41 ⟨rfl, hs41⟩; have y1 := (ents_cell hs41.up4 q hlt4).2; have HS41 := Lib.hid hs41; clear hs41 H1)
                | (go_at_call 32; (with_reducible refine (bookS_bytes bk (eslc (fs.take q) ++ [fs[q].key]) fs[q].value w _ _ HS41.out.up2 (by rw [List.length_append, List.length_singleton]; exact hel) (by omega)).mono ?_); rintro x w42 ⟨rfl, hs42⟩; have HS42 := Lib.hid hs42; clear hs42))
              go_roundw
              · exact ⟨q + 1, by omega, by push_cast; rfl, by rw [eslc_take hlt4]; exact HS42.out.of (by ac_rfl)⟩
              · simp [intOf]; omega
            · have hqe : q = fs.length := by omega
              subst hqe
              have hfin : Sat w (BookP bk (eslc fs) * (Row 24 4 (.slice FA fs.length fc) fs.length (fs.flatMap enV) * (SkipT b hr ns * (RTab r es hs * Emp)))) _ := HD4.out.of (by
                rw [List.drop_length, List.take_length]
                show Row _ _ _ _ _ * (Emp * (BookP _ _ * (SkipT b hr ns * (RTab r es hs * Emp)))) = _
                rw [emp_star]
                ac_rfl)
              obtain ⟨vL, vH, hsA⟩ := (hfin.up4).rtab
              obtain ⟨LA, lc, rfl, hl1, hl2, hl3⟩ := ((hsA.of (rtab_d ..)).up2).row_form
              have c0 := hsA.rtabL
              have HSA := Lib.hid hsA
              have HAl : Hid (∀ gs : List En, gs.map En.ent = fsts ns → alikeB (gs.map En.ent) (es.map En.ent) = true) := fun gs h1 => (alike_iff _ _).2 (by rw [h1, HF0.out, HEL.out])
              have HBl : Hid ((eslc fs).length ≤ 400) := by unfold Hid; rw [eslc_len]; omega
              have HBs : Hid (∀ x ∈ eslc fs, x.2.2.length ≤ 140737488355000) := by
                intro x hx
                obtain ⟨e, he, hx⟩ := List.mem_flatMap.1 hx
                have h1 := HSh.out e he
                rcases List.mem_cons.1 hx with rfl | hx
                · omega
                · rw [List.mem_singleton.1 hx]; omega
              clear hfin hsA hl3 HD4
              go_upto_region 37 with fail
              refine wp_region_held_drew (S := fun w' => w'.cell? ⟨r, 0, none⟩ = some (.slice LA es.length lc)) (by kernel_rfl) (by exact c0) ?_
              intro hS0
              refine rgn_take (i := 0) (v := ?rv101) rfl (by kernel_rfl) (by kernel_rfl) (by kernel_rfl) (fun _ _ _ h => h) (by rfl) ?rh101 (by assumption) ?rr101
              case rh101 => (intro w hSw; (try dsimp only at hSw); go_simp; try with_reducible rfl)
              simp only [Act.put, List.setIfInBounds_toArray, List.set_cons_zero, List.set_cons_succ]
              refine rgn_take (i := 1) (v := ?rv102) rfl (by kernel_rfl) (by kernel_rfl) (by kernel_rfl) (fun _ _ _ h => h) (by rfl) ?rh102 (by assumption) ?rr102
              case rh102 => (intro w hSw; (try dsimp only at hSw); go_simp; try with_reducible rfl)
              simp only [Act.put, List.setIfInBounds_toArray, List.set_cons_zero, List.set_cons_succ]
              refine rgn_take (i := 2) (v := ?rv103) rfl (by kernel_rfl) (by kernel_rfl) (by kernel_rfl) (fun _ _ _ h => h) (by rfl) ?rh103 (by assumption) ?rr103
              case rh103 => (intro w hSw; (try dsimp only at hSw); go_simp; try with_reducible rfl)
              simp only [Act.put, List.setIfInBounds_toArray, List.set_cons_zero, List.set_cons_succ]
              refine rgn_take (i := 3) (v := ?rv104) rfl (by kernel_rfl) (by kernel_rfl) (by kernel_rfl) (fun _ _ _ h => h) (by rfl) ?rh104 (by assumption) ?rr104
              case rh104 => (intro w hSw; (try dsimp only at hSw); go_simp; try with_reducible rfl)
              simp only [Act.put, List.setIfInBounds_toArray, List.set_cons_zero, List.set_cons_succ]
              refine rgn_take (i := 4) (v := ?rv105) rfl (by kernel_rfl) (by kernel_rfl) (by kernel_rfl) (fun _ _ _ h => h) (by rfl) ?rh105 (by assumption) ?rr105
              case rh105 => (intro w hSw; (try dsimp only at hSw); go_simp; try with_reducible rfl)
              simp only [Act.put, List.setIfInBounds_toArray, List.set_cons_zero, List.set_cons_succ]
              refine rgn_call (i := 5) rfl (by kernel_rfl) (fun K hK => ?_)
              go_simp
              go_at_call 28; (with_reducible refine (alikeS FA LA fc lc fs es true (HAl.out fs HFS.out) HSA.out.drew (Sat.row_rdK (h := HSA.out.drew.up3)) (book_ens (h := HSA.out.drew.up2)) (HSA.out.drew.rtabRd) (HSA.out.drew.rtabEns) HFC.out HFM.out hl1 hl2).mono ?_); rintro x w51 ⟨rfl, hs51⟩; have HS51 := Lib.hid hs51; clear hs51
              refine hK.out _ _ (by exact HS51.out.rtabL) (fun hS0 => ?_)
              clear hK K
              refine rgn_take (i := 6) (v := ?rv107) rfl (by kernel_rfl) (by kernel_rfl) (by kernel_rfl) (fun _ _ _ h => h) (by rfl) ?rh107 (by assumption) ?rr107
              case rh107 => (intro w hSw; (try dsimp only at hSw); go_simp; try with_reducible rfl)
              simp only [Act.put, List.setIfInBounds_toArray, List.set_cons_zero, List.set_cons_succ]
              refine rgn_take (i := 7) (v := ?rv108) rfl (by kernel_rfl) (by kernel_rfl) (by kernel_rfl) (fun _ _ _ h => h) (by rfl) ?rh108 (by assumption) ?rr108
              case rh108 => (intro w hSw; (try dsimp only at hSw); go_simp; try with_reducible rfl)
              simp only [Act.put, List.setIfInBounds_toArray, List.set_cons_zero, List.set_cons_succ]
              refine rgn_call (i := 8) rfl (by kernel_rfl) (fun K hK => ?_)
              go_simp
              go_at_call 33; (with_reducible refine (bookS_close bk (eslc fs) w _ _ HS51.out.up2 HBl.out HBs.out).mono ?_); rintro x w52 ⟨rfl, hs52⟩; have HS52 := Lib.hid hs52; clear hs52
              refine hK.out _ _ (by exact HS52.out.rtabL) (fun hS0 => ?_)
              clear hK K
              refine rgn_take (i := 9) (v := ?rv110) rfl (by kernel_rfl) (by kernel_rfl) (by kernel_rfl) (fun _ _ _ h => h) (by rfl) ?rh110 (by assumption) ?rr110
              case rh110 => (intro w hSw; (try dsimp only at hSw); go_simp; try with_reducible rfl)
              simp only [Act.put, List.setIfInBounds_toArray, List.set_cons_zero, List.set_cons_succ]
              refine rgn_take (i := 10) (v := ?rv111) rfl (by kernel_rfl) (by kernel_rfl) (by kernel_rfl) (fun _ _ _ h => h) (by rfl) ?rh111 (by assumption) ?rr111
              case rh111 => (intro w hSw; (try dsimp only at hSw); go_simp; try with_reducible rfl)
              simp only [Act.put, List.setIfInBounds_toArray, List.set_cons_zero, List.set_cons_succ]
              refine rgn_take (i := 11) (v := ?rv112) rfl (by kernel_rfl) (by kernel_rfl) (by kernel_rfl) (fun _ _ _ h => h) (by rfl) ?rh112 (by assumption) ?rr112
              case rh112 => (intro w hSw; (try dsimp only at hSw); go_simp; try with_reducible rfl)
              simp only [Act.put, List.setIfInBounds_toArray, List.set_cons_zero, List.set_cons_succ]
              refine rgn_take (i := 13) (v := ?rv113) rfl (by kernel_rfl) (by kernel_rfl) (by kernel_rfl) (fun _ _ _ h => h) (by rfl) ?rh113 (by assumption) ?rr113
              case rh113 => (intro w hSw; (try dsimp only at hSw); go_simp; try with_reducible rfl)
              simp only [Act.put, List.setIfInBounds_toArray, List.set_cons_zero, List.set_cons_succ]
              refine rgn_take (i := 14) (v := ?rv114) rfl (by kernel_rfl) (by kernel_rfl) (by kernel_rfl) (fun _ _ _ h => h) (by rfl) ?rh114 (by assumption) ?rr114
              case rh114 => (intro w hSw; (try dsimp only at hSw); go_simp; try with_reducible rfl)
              simp only [Act.put, List.setIfInBounds_toArray, List.set_cons_zero, List.set_cons_succ]
              refine rgn_take (i := 15) (v := ?rv115) rfl (by kernel_rfl) (by kernel_rfl) (by kernel_rfl) (fun _ _ _ h => h) (by rfl) ?rh115 (by assumption) ?rr115
              case rh115 => (intro w hSw; (try dsimp only at hSw); go_simp; try with_reducible rfl)
              simp only [Act.put, List.setIfInBounds_toArray, List.set_cons_zero, List.set_cons_succ]
              refine rgn_take (i := 16) (v := ?rv116) rfl (by kernel_rfl) (by kernel_rfl) (by kernel_rfl) (fun _ _ _ h => h) (by rfl) ?rh116 (by assumption) ?rr116
              case rh116 => (intro w hSw; (try dsimp only at hSw); go_simp; try with_reducible rfl)
              simp only [Act.put, List.setIfInBounds_toArray, List.set_cons_zero, List.set_cons_succ]
              refine rgn_call (i := 12) rfl (by kernel_rfl) (fun K hK => ?_)
              go_simp
              go_at_call 17; (with_reducible refine (all_any b hr ns k w _ _ HS52.out.up3 HTab.out hkk).mono ?_); rintro x w53 ⟨gs, GA, gc, rfl, hgs, hgc, hgm, hgr, hge, k53⟩; have HGS : Hid (gs.map En.ent = fsts ns) := hgs; have HGC := Lib.hid hgc; have HGM2 := Lib.hid hgm; have HGR := Lib.hid hgr; have HGE := Lib.hid hge; have HS53 := Lib.hid (HS52.out.new k53); clear hgs hgc hgm hgr hge k53
              refine hK.out _ _ (by exact HS53.out.rtabL) (fun hS0 => ?_)
              clear hK K
              refine rgn_call (i := 17) rfl (by kernel_rfl) (fun K hK => ?_)
              go_simp
              go_at_call 28; (with_reducible refine (alikeS GA LA gc lc gs es true (HAl.out gs HGS.out) HS53.out HGR.out HGE.out (HS53.out.rtabRd) (HS53.out.rtabEns) HGC.out HGM2.out hl1 hl2).mono ?_); rintro x w54 ⟨rfl, hs54⟩; have HS54 := Lib.hid hs54; clear hs54
              refine hK.out _ _ (by exact HS54.out.rtabL) (fun hS0 => ?_)
              clear hK K
              refine rgn_take (i := 18) (v := ?rv119) rfl (by kernel_rfl) (by kernel_rfl) (by kernel_rfl) (fun _ _ _ h => h) (by rfl) ?rh119 (by assumption) ?rr119
              case rh119 => (intro w hSw; (try dsimp only at hSw); go_simp; try with_reducible rfl)
              simp only [Act.put, List.setIfInBounds_toArray, List.set_cons_zero, List.set_cons_succ]
              refine rgn_take (i := 19) (v := ?rv120) rfl (by kernel_rfl) (by kernel_rfl) (by kernel_rfl) (fun _ _ _ h => h) (by rfl) ?rh120 (by assumption) ?rr120
              case rh120 => (intro w hSw; (try dsimp only at hSw); go_simp; try with_reducible rfl)
              simp only [Act.put, List.setIfInBounds_toArray, List.set_cons_zero, List.set_cons_succ]
              refine wpAnyH_done (by kernel_rfl) ?_ _
              go_wp2_with fail
              go_ret
              exact ⟨rfl, HS54.out.chg⟩
end Go.Proofs.Ytlcifkkgekpicaa
