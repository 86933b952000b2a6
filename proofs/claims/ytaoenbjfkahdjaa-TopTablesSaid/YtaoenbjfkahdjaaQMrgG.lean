/- merge.Merge. (Written by gen_mrgg.py.) -/
import Derived.Test.YtaoenbjfkahdjaaQMrgF
namespace Go.Proofs.Ytaoenbjfkahdjaa
open Go.RowKit
set_option linter.unusedVariables false
set_option maxRecDepth 100000

theorem info_rowE : (Try.prog.info? 22).map (fun i => (i.zero, i.size, i.bytes)) = some (some (.slice none 0 0), 1, 24) := by kernel_rfl
theorem rsv_ones (Rs : List RwE) : ∀ u ∈ Rs.map rsv, u.oneCell' = true := fun u hu => by
  obtain ⟨r, _, rfl⟩ := List.mem_map.1 hu
  rfl
theorem Sat.litG {w0 w : World} {F : SP} (h : Sat w0 F w) (e : TypeId) (size : Nat) : Sat w0 (Row e size (.slice (some ⟨w.heap.size, 0, none⟩) 0 0) 0 [] * F) (w.alloc (.cells #[] e)) := by
  have h1 := (h.allocPt e #[]).row_pt (n := 0) (cap := 0) (size := size) (Nat.le_refl _) (Nat.zero_le _) (by simp)
  have e : (#[] : Array Value).toList.take (0 * size) = [] := by simp
  rwa [e] at h1
theorem Sat.row_rdG {w0 w : World} {F : SP} {e : TypeId} {size n c : Nat} {A : Option Addr} {xs : List Value} (h : Sat w0 (Row e size (.slice A n c) n xs * F) w) : RdV w A xs := fun hx => by
  have hl := h.row_cases.1
  have hn : 0 < n := by
    rcases Nat.eq_zero_or_pos n with h0 | h0
    · subst h0; rw [Nat.zero_mul] at hl; exact absurd (List.eq_nil_of_length_eq_zero hl) hx
    · exact h0
  obtain ⟨g, e1, hg⟩ := h.row_at hn
  exact ⟨g, 0, e1, fun j hj => by rw [Nat.zero_add]; exact hg j hj⟩
theorem cloneRws_any (A : Option Addr) (c : Nat) (Rs : List RwE) (w0 w : World) (F : SP) (h : Sat w0 F w) (hr : RdV w A (Rs.map rsv)) (hn : Rs.length ≤ 1000000) (h1 : 1 ≤ Rs.length) :
    Calls Try.prog 67 #[.slice A Rs.length c] w fun e w' => ∃ g d, e = .returned (.slice (some ⟨g, 0, none⟩) Rs.length d) ∧ Sat w0 (Row 22 1 (.slice (some ⟨g, 0, none⟩) Rs.length d) Rs.length (Rs.map rsv) * F) w' := by
  obtain ⟨i0, hi0, hz0, hz1, hz2⟩ := info_parts info_rowE
  have hnil := fun (W : World) (A : Option Addr) (n c : Nat) => Lib.run_eql_slice_nil (P := Try.prog) W 28 22 A n c 0 0 Try.underlying28
  have HS := Lib.hid h
  have HR := Lib.hid hr
  obtain ⟨ab, ao, rfl, _⟩ := hr.get (j := 0) (by rw [List.length_map]; omega)
  have H1 := Lib.hid (rsv_ones Rs)
  have HL : Hid ((Rs.map rsv).length = Rs.length * 1) := by unfold Hid; rw [List.length_map, Nat.mul_one]
  have HE := Lib.hid (HS.out.litG 22 1)
  clear h hr
  go_enter Try.func67, Try.ntmps67
  go_wp2_with (at_builtin; refine wpList_appS rfl (.tmp 5) (.tmp 6) 28 rfl 22 i0 _ 1 24 Try.underlying28 hi0 hz0 hz1 hz2 rfl (by decide) (.slice (some ⟨w.heap.size, 0, none⟩) 0 0) 0 [] rfl w0 _ (by exact HE.out) (some ⟨ab, ao, none⟩) Rs.length c (Rs.map rsv) rfl (by exact HR.out.alloc _) HL.out H1.out (by unfold maxLen; omega) (by omega) ?_; intro A2 c2 w2 hs2; rw [Nat.zero_add, List.nil_append] at hs2; rw [Nat.zero_add]; have HS2 := Lib.hid hs2; clear hs2)
  go_ret
  obtain ⟨g, rfl, _⟩ := HS2.out.row_at (by omega)
  exact ⟨g, c2, rfl, HS2.out⟩
theorem ownE_rG {w0 w : World} {F : SP} : ∀ {es : List En}, Sat w0 (OwnE es * F) w → ∀ e ∈ es, EnR w e
  | [], _ => by simp
  | e :: es, h => by
    have h1 : Sat w0 (Row 5 1 (slv' e.key) e.key.2.2.length (e.key.2.2.map bv) * (Row 5 1 (slv' e.value) e.value.2.2.length (e.value.2.2.map bv) * (OwnE es * F))) w := h.of (by
      show Row _ _ _ _ _ * (Row _ _ _ _ _ * OwnE es) * F = _
      ac_rfl)
    intro x hx
    rcases List.mem_cons.1 hx with rfl | hx
    · exact ⟨h1.row_rdG, h1.up2.row_rdG⟩
    · exact ownE_rG h1.up3 x hx
/-- A row, cut ahead by one. -/
theorem parts_step {f : Nat → Nat} {m t : Nat} {L : List Ent} {Rs : List RwE} {r : RwE} (h : Rs.map entR = partsOf f m t L) (ht : t < L.length) (hf : f t < m) (hr : r.2.2.map En.ent = prt f (f t) (t + 1) (L.drop (t + 1))) : (Rs.set (f t) r).map entR = partsOf f m (t + 1) L := by
  apply List.ext_getElem?
  intro k
  rw [List.map_set, h, List.getElem?_set, parts_len]
  by_cases hk : f t = k
  · subst hk
    rw [if_pos rfl, if_pos hf, parts_at hf]
    exact congrArg some hr
  · rw [if_neg hk]
    rcases Nat.lt_or_ge k m with hkm | hkm
    · rw [parts_at hkm, parts_at hkm, prt_now ht, if_neg hk]
    · rw [List.getElem?_eq_none (by rw [parts_len]; exact hkm), List.getElem?_eq_none (by rw [parts_len]; exact hkm)]
/-- What holds in Merge's rounds. -/
structure MgS (w : World) (f : Nat → Nat) (L : List Ent) (m g d t : Nat) (Rs : List RwE) (outs : List En) (TA : Option Addr) (tc : Nat) (wr : World) : Prop where
  rows : RwsR w Rs
  len : Rs.length = m
  parts : Rs.map entR = partsOf f m t L
  out : outs.map En.ent = L.take t
  sat : Sat w (Row 22 1 (.slice (some ⟨g, 0, none⟩) m d) m (Rs.map rsv) * (Row 34 4 (.slice TA outs.length tc) outs.length (outs.flatMap enV) * (OwnE outs * Emp))) wr
set_option maxHeartbeats 8000000 in
theorem merge_any (A : Option Addr) (c : Nat) (Rs : List RwE) (f : Nat → Nat) (L : List Ent) (w : World) (h : RdV w A (Rs.map rsv)) (hr : RwsR w Rs) (hp : Rs.map entR = partsOf f Rs.length 0 L) (hf : ∀ i, i < L.length → f i < Rs.length) (hs : L.Pairwise LTE) (hn : Rs.length ≤ 1000) (h1 : 1 ≤ Rs.length) (hL : L.length ≤ 1000000)
    (hsz : ∀ e ∈ L, e.key.length ≤ 1000000000 ∧ e.value.length ≤ 1000000000) :
    Calls Try.prog 17 #[.slice A Rs.length c] w (ThinT w L) := by
  obtain ⟨i0, hi0, hz0, hz1, hz2⟩ := info_parts info_entry
  have Hi0 := Lib.hid hi0; have Hz0 := Lib.hid hz0; have Hz1 := Lib.hid hz1; have Hz2 := Lib.hid hz2
  have HL := Lib.hid h; have HR := Lib.hid hr; have HP := Lib.hid hp; have HF := Lib.hid hf; have HS := Lib.hid hs; have HSz := Lib.hid hsz
  have HCl : Hid (Calls Try.prog 67 #[.slice A Rs.length c] w fun e w' => ∃ g d, e = .returned (.slice (some ⟨g, 0, none⟩) Rs.length d) ∧ Sat w (Row 22 1 (.slice (some ⟨g, 0, none⟩) Rs.length d) Rs.length (Rs.map rsv) * Emp) w') := cloneRws_any A c Rs w w Emp (Sat.start w) h (by omega) h1
  obtain ⟨m, hm⟩ : ∃ m, m = Rs.length := ⟨_, rfl⟩
  have HM := Lib.hid hm
  rw [← hm] at hn h1 HCl ⊢
  clear hi0 hz0 hz1 hz2 h hr hp hf hs hsz hm
  go_enter Try.func17, Try.ntmps17
  go_wp2_with (go_at_call 67; (with_reducible refine HCl.out.mono ?_); rintro y w1 ⟨g, d, rfl, hs1⟩; have HS1 := Lib.hid hs1; clear hs1)
  clear HCl
  go_loopw [15] (fun iv wr => ∃ i : Nat, i ≤ m ∧ iv = .int .i64 (i : Int) ∧ Hid (Sat w (Row 22 1 (.slice (some ⟨g, 0, none⟩) m d) m (Rs.map rsv) * Emp) wr)) (fun iv _ => m - (intOf iv).toNat)
  case atStart => exact ⟨0, by omega, rfl, HS1.out⟩
  case round =>
    obtain ⟨i, hi, rfl, HD⟩ := hrel
    by_cases hlt : i < m
    · have hiR : i < Rs.length := by rw [← HM.out]; exact hlt
      have z0 := HD.out.row_cell (j := i) (by rw [List.length_map]; exact hiR)
      rw [List.getElem_map] at z0
      have HRi := Lib.hid ((HR.out.rd _ (List.getElem_mem hiR)).new HD.out.chg)
      have HRe := Lib.hid (((HR.out.ent _ (List.getElem_mem hiR))).new HD.out.chg)
      have HRc := Lib.hid (HR.out.cap _ (List.getElem_mem hiR))
      have hso : ((Rs[i].2.2).map En.ent).Pairwise LTE := by
        have e1 : (Rs.map entR)[i]? = some (entR Rs[i]) := by rw [List.getElem?_map, List.getElem?_eq_getElem hiR]; rfl
        rw [HP.out, parts_at hiR] at e1
        injection e1 with e1
        show (entR Rs[i]).Pairwise LTE
        rw [← e1]
        exact HS.out.sublist (prt_sub f i _ 0)
      have HSo := Lib.hid hso
      have hii : (i : Int) < m := by omega
      generalize Rs[i] = r at *
      obtain ⟨A1, c1, es⟩ := r
      unfold rsv at z0
      dsimp only at z0 HRi HRe HRc HSo
      have HSd : Hid (Calls Try.prog 49 #[.slice A1 es.length c1] wr fun e w' => e = .returned (.bool true) ∧ Chg No wr w') := (sorted_any A1 c1 es wr HRi.out HRe.out HRc.out.1 HRc.out.2.1).mono fun e w' ⟨h1, h2⟩ => ⟨by rw [h1, sortedB_of HSo.out], h2⟩
      clear hso
      go_wp2_with (go_at_call 49; (with_reducible refine HSd.out.mono ?_); rintro y w2 ⟨rfl, k2⟩; have HK2 := Lib.hid k2; clear k2)
      go_roundw
      · exact ⟨i + 1, by omega, by go_num, HD.out.new HK2.out⟩
      · simp [intOf]; omega
    · have HSt : Hid (MgS w f L m g d 0 Rs [] none 0 wr) := ⟨HR.out, HM.out.symm, by rw [HP.out, HM.out], rfl, (HD.out.row_nil 34 4).of (by
        show Row 34 4 (.slice none 0 0) 0 [] * _ = Row 22 1 _ m _ * (Row 34 4 (.slice none 0 0) 0 [] * (Emp * Emp))
        rw [emp_star]
        ac_rfl)⟩
      have HFi : Hid (∀ (t : Nat) (Rt : List RwE) (outs : List En) (TA : Option Addr) (tc : Nat) (W : World), MgS w f L m g d t Rt outs TA tc W → Calls Try.prog 68 #[.slice (some ⟨g, 0, none⟩) m d] W fun x w' => ∃ o, x = .returned (bestV o) ∧ BestAt (partsOf f m t L) m o ∧ MgS w f L m g d t Rt outs TA tc w') := fun t Rt outs TA tc W hW => by
        have h9 := first_any (some ⟨g, 0, none⟩) d Rt W (hW.sat.row_rdG) (hW.rows.new hW.sat.chg) (by rw [hW.len]; omega)
        rw [hW.parts, hW.len] at h9
        exact h9.mono fun x w' ⟨o, h1, h2, h3⟩ => ⟨o, h1, h2, hW.rows, hW.len, hW.parts, hW.out, hW.sat.new h3⟩
      clear HD HS1
      go_wp2_with (go_at_call 68; (with_reducible refine (HFi.out _ _ _ _ _ _ HSt.out).mono ?_); rintro y w3 ⟨o0, rfl, ho, hs3⟩; have HO := Lib.hid ho; have HS3 := Lib.hid hs3; clear ho hs3)
      clear HSt
      go_loopw [7, 8] (fun ov iv wr => ∃ (t : Nat) (Rt : List RwE) (outs : List En) (TA : Option Addr) (tc : Nat) (o : Option Nat), t ≤ L.length ∧ ov = .slice TA outs.length tc ∧ iv = bestV o ∧ Hid (BestAt (partsOf f m t L) m o ∧ MgS w f L m g d t Rt outs TA tc wr)) (fun ov _ _ => L.length - lenOf ov)
      case atStart => exact ⟨0, Rs, [], none, 0, o0, by omega, rfl, rfl, HO.out, HS3.out⟩
      case round =>
        obtain ⟨t, Rt, outs, TA, tc, o, ht, rfl, rfl, HD⟩ := hrel
        have hol : outs.length = t := by
          have h9 := congrArg List.length HD.out.2.out
          rw [List.length_map, List.length_take] at h9
          omega
        by_cases hlt : t < L.length
        · have ho : o = some (f t) := best_next HS.out hlt (by have := HF.out t hlt; rw [← HM.out] at this; exact this) HD.out.1
          subst ho
          obtain ⟨b, hb⟩ : ∃ b, b = f t := ⟨_, rfl⟩
          have hbm : b < m := by rw [hb, HM.out]; exact HF.out t hlt
          have hbR : b < Rt.length := by rw [HD.out.2.len]; exact hbm
          have hbi : (b : Int) < m := by omega
          have hge : (0 : Int) ≤ (b : Int) := by omega
          have HBe := Lib.hid hb
          rw [← hb]
          have z0 := HD.out.2.sat.row_cell (j := b) (by rw [List.length_map]; exact hbR)
          have f0 := HD.out.2.sat.row_free b
          rw [List.getElem_map] at z0
          have HRi := Lib.hid (HD.out.2.rows.rd _ (List.getElem_mem hbR))
          have HRe := Lib.hid (HD.out.2.rows.ent _ (List.getElem_mem hbR))
          have HRc := Lib.hid (HD.out.2.rows.cap _ (List.getElem_mem hbR))
          have HRp : Hid (entR Rt[b] = L[t] :: prt f b (t + 1) (L.drop (t + 1))) := by
            have e1 : (Rt.map entR)[b]? = some (entR Rt[b]) := by rw [List.getElem?_map, List.getElem?_eq_getElem hbR]; rfl
            rw [HD.out.2.parts, parts_at hbm, prt_now hlt, if_pos hb.symm] at e1
            injection e1 with e1
            exact e1.symm
          generalize Rt[b] = r at *
          obtain ⟨A1, c1, es⟩ := r
          unfold rsv at z0
          dsimp only at z0 HRi HRe HRc
          cases es with
          | nil => cases HRp.out
          | cons x es =>
            have hxe : x.ent = L[t] ∧ es.map En.ent = prt f b (t + 1) (L.drop (t + 1)) := by
              have h9 := HRp.out
              injection h9 with h8 h7
              exact ⟨h8, h7⟩
            have HXe := Lib.hid hxe
            obtain ⟨q, hq⟩ : ∃ q, q = es.length := ⟨_, rfl⟩
            have HQ := Lib.hid hq
            rw [List.length_cons, ← hq] at z0 HRc
            obtain ⟨eb, eo, rfl, hqe⟩ := ents_at (HRi.out.new HD.out.2.sat.chg) (by simp)
            obtain ⟨y0, y1, y2, y3⟩ := hqe 0 (by simp)
            rw [Nat.zero_mul, Nat.add_zero] at y0 y1 y2 y3
            simp only [List.getElem_cons_zero] at y0 y1 y2 y3
            unfold slv' at y0 y1
            have hc1 : q + 1 ≤ c1 := HRc.out.1
            have hc2 : c1 ≤ 9223372036854775807 := HRc.out.2.1
            have hq1 : (0 : Int) < (q : Int) + 1 := by omega
            have hq2 : (1 : Int) ≤ (q : Int) + 1 := by omega
            have hs1 := HD.out.2.sat.allocPt 34 #[.slice x.key.1 x.key.2.2.length x.key.2.1, .slice x.value.1 x.value.2.2.length x.value.2.1, .int .i64 x.seq, .bool x.dead]
            have HS1 := Lib.hid hs1
            clear hqe hxe hq hs1 hb
            rw [show bestV (some b) = Value.int .i64 (b : Int) from rfl]
            go_upto_region 13 with fail
            have z1 := ((Chg.refl No wr).alloc (.cells #[.slice x.key.1 x.key.2.2.length x.key.2.1, .slice x.value.1 x.value.2.2.length x.value.2.1, .int .i64 x.seq, .bool x.dead] 34)).cell z0 id
            have f1 := HS1.out.up2.row_free b
            go_upto_region 14 with fail
            obtain ⟨A2, hA2⟩ : ∃ A2 : Option Addr, A2 = (if c1 = 1 then some ⟨eb, eo, none⟩ else some ⟨eb, eo + 4, none⟩) := ⟨_, rfl⟩
            rw [← hA2]
            have HA2 : Hid (RdV w A2 (es.flatMap enV)) := by
              have h9 := ents_drop HRi.out (n := 1) (by simp) (by rw [List.length_cons, ← HQ.out]; exact hc1)
              rw [hA2]
              by_cases e : c1 = 1
              · rw [if_pos e] at h9 ⊢; exact h9
              · rw [if_neg e, Option.map_some, Addr.add_lit] at h9
                rw [if_neg e]
                exact h9
            have hs2 := HS1.out.up2.row_setj (j := b) (.slice A2 q (c1 - 1))
            have e3 : (Rt.map rsv).set b (.slice A2 q (c1 - 1)) = (Rt.set b (A2, c1 - 1, es)).map rsv := by
              rw [List.map_set]
              unfold rsv
              dsimp only
              rw [← HQ.out]
            rw [e3] at hs2
            clear z1 f1 z0 f0 hA2 e3
            revert hs2
            generalize World.setCell _ _ _ = w5
            generalize wr.heap.size = bx
            intro hs2
            have HS5 : Hid (Sat w (Row 34 4 (.slice TA outs.length tc) outs.length (outs.flatMap enV) * (Row 22 1 (.slice (some ⟨g, 0, none⟩) m d) m ((Rt.set b (A2, c1 - 1, es)).map rsv) * (Pt bx 34 #[.slice x.key.1 x.key.2.2.length x.key.2.1, .slice x.value.1 x.value.2.2.length x.value.2.1, .int .i64 x.seq, .bool x.dead] * (OwnE outs * Emp)))) w5) := hs2.of (by ac_rfl)
            have HRw : Hid (RwsR w (Rt.set b (A2, c1 - 1, es))) := by
              have key : ∀ r ∈ Rt.set b (A2, c1 - 1, es), r ∈ Rt ∨ r = (A2, c1 - 1, es) := fun r hr => List.mem_or_eq_of_mem_set hr
              refine ⟨fun r hr => ?_, fun r hr => ?_, fun r hr => ?_⟩
              · rcases key r hr with h | rfl
                · exact HD.out.2.rows.rd r h
                · exact HA2.out
              · rcases key r hr with h | rfl
                · exact HD.out.2.rows.ent r h
                · exact fun e he => HRe.out e (List.mem_cons_of_mem _ he)
              · rcases key r hr with h | rfl
                · exact HD.out.2.rows.cap r h
                · have h9 := HRc.out
                  unfold maxLen at h9
                  show es.length ≤ c1 - 1 ∧ c1 - 1 ≤ maxLen ∧ es.length ≤ 1000000
                  rw [← HQ.out]
                  unfold maxLen
                  omega
            have HPn : Hid ((Rt.set b (A2, c1 - 1, es)).map entR = partsOf f m (t + 1) L) := by
              have hbf : b = f t := HBe.out
              subst hbf
              exact parts_step HD.out.2.parts hlt hbm HXe.out.2
            have HLn : Hid ((Rt.set b (A2, c1 - 1, es)).length = m) := by unfold Hid; rw [List.length_set]; exact HD.out.2.len
            have HOu : Hid (outs.map En.ent ++ [x.ent] = L.take (t + 1)) := by
              unfold Hid
              rw [HD.out.2.out, List.take_add_one, List.getElem?_eq_getElem hlt, HXe.out.1]
              rfl
            have HXr : Hid (EnR w x) := HRe.out x List.mem_cons_self
            have HXz : Hid (x.key.2.2.length ≤ 1000000000 ∧ x.value.2.2.length ≤ 1000000000) := by
              have h9 := HSz.out L[t] (List.getElem_mem hlt)
              rw [← HXe.out.1] at h9
              exact h9
            have HCo : Hid (∀ W, Sat w (Row 34 4 (.slice TA outs.length tc) outs.length (outs.flatMap enV) * (Row 22 1 (.slice (some ⟨g, 0, none⟩) m d) m ((Rt.set b (A2, c1 - 1, es)).map rsv) * (Pt bx 34 #[.slice x.key.1 x.key.2.2.length x.key.2.1, .slice x.value.1 x.value.2.2.length x.value.2.1, .int .i64 x.seq, .bool x.dead] * (OwnE outs * Emp)))) W → Calls Try.prog 70 #[.agg #[.slice x.key.1 x.key.2.2.length x.key.2.1, .slice x.value.1 x.value.2.2.length x.value.2.1, .int .i64 x.seq, .bool x.dead]] W fun y w' => CopiedS w (Row 34 4 (.slice TA outs.length tc) outs.length (outs.flatMap enV) * (Row 22 1 (.slice (some ⟨g, 0, none⟩) m d) m ((Rt.set b (A2, c1 - 1, es)).map rsv) * (Pt bx 34 #[.slice x.key.1 x.key.2.2.length x.key.2.1, .slice x.value.1 x.value.2.2.length x.value.2.1, .int .i64 x.seq, .bool x.dead] * (OwnE outs * Emp)))) x y w' ∧ Chg No W w') := fun W hW => gcopied_any x w W _ hW ⟨HXr.out.1.new hW.chg, HXr.out.2.new hW.chg⟩ (by have := HXz.out.1; omega) (by have := HXz.out.2; omega)
            have HMs : Hid (∀ W A3 c3 AK ck AV cv, Sat w (Row 34 4 (.slice A3 (outs.length + 1) c3) (outs.length + 1) (outs.flatMap enV ++ [.slice AK x.key.2.2.length ck, .slice AV x.value.2.2.length cv, .int .i64 x.seq, .bool x.dead]) * (Row 5 1 (.slice AK x.key.2.2.length ck) x.key.2.2.length (x.key.2.2.map bv) * (Row 5 1 (.slice AV x.value.2.2.length cv) x.value.2.2.length (x.value.2.2.map bv) * (Row 22 1 (.slice (some ⟨g, 0, none⟩) m d) m ((Rt.set b (A2, c1 - 1, es)).map rsv) * (Pt bx 34 #[.slice x.key.1 x.key.2.2.length x.key.2.1, .slice x.value.1 x.value.2.2.length x.value.2.1, .int .i64 x.seq, .bool x.dead] * (OwnE outs * Emp)))))) W → MgS w f L m g d (t + 1) (Rt.set b (A2, c1 - 1, es)) (outs ++ [⟨(AK, ck, x.key.2.2), (AV, cv, x.value.2.2), x.seq, x.dead⟩]) A3 c3 W) := fun W A3 c3 AK ck AV cv hW => by
              refine ⟨HRw.out, HLn.out, HPn.out, by rw [List.map_append]; exact HOu.out, ?_⟩
              rw [ownE_snoc, List.flatMap_append, List.length_append]
              refine Sat.right (A := Pt bx 34 #[.slice x.key.1 x.key.2.2.length x.key.2.1, .slice x.value.1 x.value.2.2.length x.value.2.1, .int .i64 x.seq, .bool x.dead]) (hW.of ?_)
              show _ = Pt bx _ _ * (Row _ 1 _ _ _ * (Row _ 4 _ (outs.length + 1) (outs.flatMap enV ++ [_, _, _, _]) * ((Row _ 1 _ _ _ * (Row _ 1 _ _ _ * OwnE outs)) * Emp)))
              unfold slv'
              ac_rfl
            clear hs2 HS1 HS3
            have hob : outs.length < L.length := by omega
            have hob2 : outs.length ≤ 1000000 := by omega
            have HOl := Lib.hid hol
            clear hol
            go_upto_region 15 with fail
            by_cases ht0 : t = 0
            · have hz0 : (((outs.length : Nat) : Int) == 0) = true := by rw [HOl.out, ht0]; rfl
              clear ht0
              refine wp_region_held_drew (S := fun _ => True) (by kernel_rfl) trivial ?_
              intro hS0
              refine rgn_take (i := 0) (v := ?rv1) rfl (by kernel_rfl) (by kernel_rfl) (by kernel_rfl) (fun _ _ _ h => h) (by rfl) ?rh1 (by assumption) ?rr1
              case rh1 => (intro w hSw; (try dsimp only at hSw); go_simp; try with_reducible rfl)
              simp only [Act.put, List.setIfInBounds_toArray, List.set_cons_zero, List.set_cons_succ]
              refine rgn_take (i := 1) (v := ?rv2) rfl (by kernel_rfl) (by kernel_rfl) (by kernel_rfl) (fun _ _ _ h => h) (by rfl) ?rh2 (by assumption) ?rr2
              case rh2 => (intro w hSw; (try dsimp only at hSw); go_simp; try with_reducible rfl)
              simp only [Act.put, List.setIfInBounds_toArray, List.set_cons_zero, List.set_cons_succ]
              try simp only [hz0]
              refine rgn_take (i := 2) (v := ?rv4) rfl (by kernel_rfl) (by kernel_rfl) (by kernel_rfl) (fun _ _ _ h => h) (by rfl) ?rh4 (by assumption) ?rr4
              case rh4 => (intro w hSw; (try dsimp only at hSw); go_simp; try with_reducible rfl)
              simp only [Act.put, List.setIfInBounds_toArray, List.set_cons_zero, List.set_cons_succ]
              refine rgn_skip (i := 3) rfl (by kernel_rfl) (by kernel_rfl) (by kernel_rfl) (fun _ _ _ h => h) (by rfl) (by assumption) ?_
              simp only [Act.put, List.setIfInBounds_toArray, List.set_cons_zero, List.set_cons_succ]
              refine rgn_skip (i := 4) rfl (by kernel_rfl) (by kernel_rfl) (by kernel_rfl) (fun _ _ _ h => h) (by rfl) (by assumption) ?_
              simp only [Act.put, List.setIfInBounds_toArray, List.set_cons_zero, List.set_cons_succ]
              refine rgn_skip (i := 5) rfl (by kernel_rfl) (by kernel_rfl) (by kernel_rfl) (fun _ _ _ h => h) (by rfl) (by assumption) ?_
              simp only [Act.put, List.setIfInBounds_toArray, List.set_cons_zero, List.set_cons_succ]
              refine rgn_skip (i := 6) rfl (by kernel_rfl) (by kernel_rfl) (by kernel_rfl) (fun _ _ _ h => h) (by rfl) (by assumption) ?_
              simp only [Act.put, List.setIfInBounds_toArray, List.set_cons_zero, List.set_cons_succ]
              refine rgn_skip (i := 7) rfl (by kernel_rfl) (by kernel_rfl) (by kernel_rfl) (fun _ _ _ h => h) (by rfl) (by assumption) ?_
              simp only [Act.put, List.setIfInBounds_toArray, List.set_cons_zero, List.set_cons_succ]
              refine rgn_skip (i := 8) rfl (by kernel_rfl) (by kernel_rfl) (by kernel_rfl) (fun _ _ _ h => h) (by rfl) (by assumption) ?_
              simp only [Act.put, List.setIfInBounds_toArray, List.set_cons_zero, List.set_cons_succ]
              refine rgn_skip (i := 9) rfl (by kernel_rfl) (by kernel_rfl) (by kernel_rfl) (fun _ _ _ h => h) (by rfl) (by assumption) ?_
              simp only [Act.put, List.setIfInBounds_toArray, List.set_cons_zero, List.set_cons_succ]
              refine rgn_take (i := 10) (v := ?rv12) rfl (by kernel_rfl) (by kernel_rfl) (by kernel_rfl) (fun _ _ _ h => h) (by rfl) ?rh12 (by assumption) ?rr12
              case rh12 => (intro w hSw; (try dsimp only at hSw); go_simp; try with_reducible rfl)
              simp only [Act.put, List.setIfInBounds_toArray, List.set_cons_zero, List.set_cons_succ]
              refine wpAnyH_done (by kernel_rfl) ?_ _
              have HS8 := Lib.hid HS5.out.drew
              have b0 := HS8.out.up3.cell 0; have b1 := HS8.out.up3.cell 1; have b2 := HS8.out.up3.cell 2; have b3 := HS8.out.up3.cell 3
              go_wp2_with (first
                | (go_at_call 70; (with_reducible refine (HCo.out _ HS8.out).mono ?_); rintro y w6 ⟨⟨AK, ck, AV, cv, rfl, hs6⟩, k6⟩; have HS6 := Lib.hid hs6; clear hs6 k6; simp only [enA])
                | (at_builtin; refine wpList_appS rfl (.tmp 56) (.tmp 59) 22 rfl 34 i0 _ 4 64 Try.underlying22 Hi0.out Hz0.out Hz1.out Hz2.out rfl (by decide) (.slice TA outs.length tc) outs.length (outs.flatMap enV) rfl w _ (by exact (HS6.out.alloc' _).up3) (some ⟨w6.heap.size, 0, none⟩) 1 1 [.slice AK x.key.2.2.length ck, .slice AV x.value.2.2.length cv, .int .i64 x.seq, .bool x.dead] rfl (lit_rdv _ _ _) rfl (by intro u hu; simp at hu; rcases hu with rfl | rfl | rfl | rfl <;> rfl) (by unfold maxLen; omega) (by omega) ?_; intro A3 c3 w7 hs7; have HM7 := Lib.hid (HMs.out _ _ _ _ _ _ _ hs7); clear hs7)
                | (go_at_call 68; (with_reducible refine (HFi.out _ _ _ _ _ _ HM7.out).mono ?_); rintro y w8 ⟨o2, rfl, ho2, hs8⟩; have HO2 := Lib.hid ho2; have HM8 := Lib.hid hs8; clear ho2 hs8))
              go_roundw
              · exact ⟨t + 1, _, _, A3, c3, o2, by omega, by rw [List.length_append]; rfl, rfl, HO2.out, HM8.out⟩
              · show L.length - (outs.length + 1) < L.length - outs.length
                omega
            · have hz0 : (((outs.length : Nat) : Int) == 0) = false := by rw [HOl.out]; simpa using ht0
              obtain ⟨o2, z, hoz⟩ : ∃ o2 z, outs = o2 ++ [z] := by
                rcases List.eq_nil_or_concat outs with h9 | ⟨a, z, h9⟩
                · have h8 := HOl.out; rw [h9] at h8; simp at h8; omega
                · exact ⟨a, z, by rw [h9, List.concat_eq_append]⟩
              obtain ⟨p, hp⟩ : ∃ p, p = o2.length := ⟨_, rfl⟩
              have hpl : outs.length = p + 1 := by rw [hoz, List.length_append, hp]; rfl
              have hqs : (((outs.length : Nat) : Int) - 1) = (p : Int) := by rw [hpl]; omega
              have hol := HOl.out
              obtain ⟨lb, lo, eA, hqe⟩ := ents_at (HS5.out.row_rdG) (by omega)
              have hwp : IntKind.i64.wrap (p : Int) = p := by rw [IntKind.wrap_i64]; omega
              have hpi : (p : Int) < outs.length := by omega
              obtain ⟨ob, eO, _⟩ := HS5.out.row_at (by omega)
              rw [eO] at eA
              injection eA with eA
              injection eA with e1 e2
              subst e1; subst e2
              have hpo : p < outs.length := by omega
              obtain ⟨y0, y1, y2, y3⟩ := hqe p hpo
              have hoz2 : outs[p] = z := by simp only [hoz, hp]; simp
              rw [hoz2] at y0 y1 y2 y3
              unfold slv' at y0 y1
              rw [Nat.zero_add] at y0 y1 y2 y3
              have hzL : z.ent = L[p] := by
                have h9 := congrArg (fun l => l[p]?) HD.out.2.out
                simp only [List.getElem?_map, List.getElem?_take] at h9
                rw [List.getElem?_eq_getElem hpo, hoz2, if_pos (by omega), List.getElem?_eq_getElem (by omega)] at h9
                injection h9
              have hLt : lessE z.ent x.ent = true := by
                rw [hzL, HXe.out.1]
                exact List.pairwise_iff_getElem.1 HS.out p t (by omega) hlt (by omega)
              have b0 := HS5.out.up3.cell 0; have b1 := HS5.out.up3.cell 1; have b2 := HS5.out.up3.cell 2; have b3 := HS5.out.up3.cell 3
              have hzr : EnR w5 z := ownE_rG (HS5.out.up4) z (by rw [hoz]; simp)
              have HLe : Hid (Calls Try.prog 69 #[.agg #[.slice z.key.1 z.key.2.2.length z.key.2.1, .slice z.value.1 z.value.2.2.length z.value.2.1, .int .i64 z.seq, .bool z.dead], .agg #[.slice x.key.1 x.key.2.2.length x.key.2.1, .slice x.value.1 x.value.2.2.length x.value.2.1, .int .i64 x.seq, .bool x.dead]] w5.drew fun e w' => e = .returned (.bool true) ∧ Chg No w5.drew w') := by
                have h9 := less_any z x w5.drew ⟨hzr.1.new (Chg.refl No w5).drew, hzr.2.new (Chg.refl No w5).drew⟩ ⟨HXr.out.1.new HS5.out.drew.chg, HXr.out.2.new HS5.out.drew.chg⟩
                rw [hLt] at h9
                exact h9
              have HS0 : Hid ((w5.drew.cell? ⟨ob, p * 4, none⟩ = some (.slice z.key.1 z.key.2.2.length z.key.2.1) ∧ w5.drew.cell? ⟨ob, p * 4 + 1, none⟩ = some (.slice z.value.1 z.value.2.2.length z.value.2.1) ∧ w5.drew.cell? ⟨ob, p * 4 + 2, none⟩ = some (.int .i64 z.seq) ∧ w5.drew.cell? ⟨ob, p * 4 + 3, none⟩ = some (.bool z.dead)) ∧ (w5.drew.cell? ⟨bx, 0, none⟩ = some (.slice x.key.1 x.key.2.2.length x.key.2.1) ∧ w5.drew.cell? ⟨bx, 1, none⟩ = some (.slice x.value.1 x.value.2.2.length x.value.2.1) ∧ w5.drew.cell? ⟨bx, 2, none⟩ = some (.int .i64 x.seq) ∧ w5.drew.cell? ⟨bx, 3, none⟩ = some (.bool x.dead))) := ⟨⟨y0, y1, y2, y3⟩, b0, b1, b2, b3⟩
              have HSk : Hid (∀ W, Chg No w5.drew W → (W.cell? ⟨ob, p * 4, none⟩ = some (.slice z.key.1 z.key.2.2.length z.key.2.1) ∧ W.cell? ⟨ob, p * 4 + 1, none⟩ = some (.slice z.value.1 z.value.2.2.length z.value.2.1) ∧ W.cell? ⟨ob, p * 4 + 2, none⟩ = some (.int .i64 z.seq) ∧ W.cell? ⟨ob, p * 4 + 3, none⟩ = some (.bool z.dead)) ∧ (W.cell? ⟨bx, 0, none⟩ = some (.slice x.key.1 x.key.2.2.length x.key.2.1) ∧ W.cell? ⟨bx, 1, none⟩ = some (.slice x.value.1 x.value.2.2.length x.value.2.1) ∧ W.cell? ⟨bx, 2, none⟩ = some (.int .i64 x.seq) ∧ W.cell? ⟨bx, 3, none⟩ = some (.bool x.dead))) := fun W k => ⟨⟨k.cell HS0.out.1.1 id, k.cell HS0.out.1.2.1 id, k.cell HS0.out.1.2.2.1 id, k.cell HS0.out.1.2.2.2 id⟩, k.cell HS0.out.2.1 id, k.cell HS0.out.2.2.1 id, k.cell HS0.out.2.2.2.1 id, k.cell HS0.out.2.2.2.2 id⟩
              rw [eO]
              have HEO := Lib.hid eO
              clear y0 y1 y2 y3 b0 b1 b2 b3 hqe hoz hp hpl hoz2 hzL hLt hzr eO hol
              refine wp_region_held_drew (S := fun w' => (w'.cell? ⟨ob, p * 4, none⟩ = some (.slice z.key.1 z.key.2.2.length z.key.2.1) ∧ w'.cell? ⟨ob, p * 4 + 1, none⟩ = some (.slice z.value.1 z.value.2.2.length z.value.2.1) ∧ w'.cell? ⟨ob, p * 4 + 2, none⟩ = some (.int .i64 z.seq) ∧ w'.cell? ⟨ob, p * 4 + 3, none⟩ = some (.bool z.dead)) ∧ (w'.cell? ⟨bx, 0, none⟩ = some (.slice x.key.1 x.key.2.2.length x.key.2.1) ∧ w'.cell? ⟨bx, 1, none⟩ = some (.slice x.value.1 x.value.2.2.length x.value.2.1) ∧ w'.cell? ⟨bx, 2, none⟩ = some (.int .i64 x.seq) ∧ w'.cell? ⟨bx, 3, none⟩ = some (.bool x.dead))) (by kernel_rfl) HS0.out ?_
              intro hS0
              refine rgn_take (i := 0) (v := ?rv13) rfl (by kernel_rfl) (by kernel_rfl) (by kernel_rfl) (fun _ _ _ h => h) (by rfl) ?rh13 (by assumption) ?rr13
              case rh13 => (intro w hSw; (try dsimp only at hSw); go_simp; try with_reducible rfl)
              simp only [Act.put, List.setIfInBounds_toArray, List.set_cons_zero, List.set_cons_succ]
              refine rgn_take (i := 1) (v := ?rv14) rfl (by kernel_rfl) (by kernel_rfl) (by kernel_rfl) (fun _ _ _ h => h) (by rfl) ?rh14 (by assumption) ?rr14
              case rh14 => (intro w hSw; (try dsimp only at hSw); go_simp; try with_reducible rfl)
              simp only [Act.put, List.setIfInBounds_toArray, List.set_cons_zero, List.set_cons_succ]
              try simp only [hz0]
              refine rgn_take (i := 2) (v := ?rv16) rfl (by kernel_rfl) (by kernel_rfl) (by kernel_rfl) (fun _ _ _ h => h) (by rfl) ?rh16 (by assumption) ?rr16
              case rh16 => (intro w hSw; (try dsimp only at hSw); go_simp; try with_reducible rfl)
              simp only [Act.put, List.setIfInBounds_toArray, List.set_cons_zero, List.set_cons_succ]
              refine rgn_take (i := 3) (v := ?rv17) rfl (by kernel_rfl) (by kernel_rfl) (by kernel_rfl) (fun _ _ _ h => h) (by rfl) ?rh17 (by assumption) ?rr17
              case rh17 => (intro w hSw; (try dsimp only at hSw); go_simp; try with_reducible rfl)
              simp only [Act.put, List.setIfInBounds_toArray, List.set_cons_zero, List.set_cons_succ]
              refine rgn_take (i := 4) (v := ?rv18) rfl (by kernel_rfl) (by kernel_rfl) (by kernel_rfl) (fun _ _ _ h => h) (by rfl) ?rh18 (by assumption) ?rr18
              case rh18 => (intro w hSw; (try dsimp only at hSw); go_simp; try with_reducible rfl)
              simp only [Act.put, List.setIfInBounds_toArray, List.set_cons_zero, List.set_cons_succ]
              refine rgn_take (i := 5) (v := ?rv19) rfl (by kernel_rfl) (by kernel_rfl) (by kernel_rfl) (fun _ _ _ h => h) (by rfl) ?rh19 (by assumption) ?rr19
              case rh19 => (intro w hSw; (try dsimp only at hSw); go_simp; try with_reducible rfl)
              simp only [Act.put, List.setIfInBounds_toArray, List.set_cons_zero, List.set_cons_succ]
              try simp only [hqs, hwp]
              refine rgn_take (i := 6) (v := ?rv21) rfl (by kernel_rfl) (by kernel_rfl) (by kernel_rfl) (fun _ _ _ h => h) (by rfl) ?rh21 (by assumption) ?rr21
              case rh21 => (intro w hSw; (try dsimp only at hSw); go_simp; try with_reducible rfl)
              simp only [Act.put, List.setIfInBounds_toArray, List.set_cons_zero, List.set_cons_succ]
              refine rgn_take (i := 7) (v := ?rv22) rfl (by kernel_rfl) (by kernel_rfl) (by kernel_rfl) (fun _ _ _ h => h) (by rfl) ?rh22 (by assumption) ?rr22
              case rh22 => (intro w hSw; (try dsimp only at hSw); go_simp; try with_reducible rfl)
              simp only [Act.put, List.setIfInBounds_toArray, List.set_cons_zero, List.set_cons_succ]
              refine rgn_take (i := 8) (v := ?rv23) rfl (by kernel_rfl) (by kernel_rfl) (by kernel_rfl) (fun _ _ _ h => h) (by rfl) ?rh23 (by assumption) ?rr23
              case rh23 => (intro w hSw; (try dsimp only at hSw); go_simp; try with_reducible rfl)
              simp only [Act.put, List.setIfInBounds_toArray, List.set_cons_zero, List.set_cons_succ]
              refine rgn_call (i := 9) rfl (by kernel_rfl) (fun K hK => ?_)
              go_simp
              go_at_call 69; (with_reducible refine HLe.out.mono ?_); rintro y w1 ⟨rfl, k1⟩; have HK := Lib.hid k1; clear k1
              refine hK.out _ _ (HSk.out _ HK.out) (fun hS0 => ?_)
              clear hK K
              refine rgn_take (i := 10) (v := ?rv25) rfl (by kernel_rfl) (by kernel_rfl) (by kernel_rfl) (fun _ _ _ h => h) (by rfl) ?rh25 (by assumption) ?rr25
              case rh25 => (intro w hSw; (try dsimp only at hSw); go_simp; try with_reducible rfl)
              simp only [Act.put, List.setIfInBounds_toArray, List.set_cons_zero, List.set_cons_succ]
              refine wpAnyH_done (by kernel_rfl) ?_ _
              have HS8 : Hid (Sat w (Row 34 4 (.slice TA outs.length tc) outs.length (outs.flatMap enV) * (Row 22 1 (.slice (some ⟨g, 0, none⟩) m d) m ((Rt.set b (A2, c1 - 1, es)).map rsv) * (Pt bx 34 #[.slice x.key.1 x.key.2.2.length x.key.2.1, .slice x.value.1 x.value.2.2.length x.value.2.1, .int .i64 x.seq, .bool x.dead] * (OwnE outs * Emp)))) w1) := HS5.out.drew.new HK.out
              rw [← HEO.out]
              have b0 := HS8.out.up3.cell 0; have b1 := HS8.out.up3.cell 1; have b2 := HS8.out.up3.cell 2; have b3 := HS8.out.up3.cell 3
              go_wp2_with (first
                | (go_at_call 70; (with_reducible refine (HCo.out _ HS8.out).mono ?_); rintro y w6 ⟨⟨AK, ck, AV, cv, rfl, hs6⟩, k6⟩; have HS6 := Lib.hid hs6; clear hs6 k6; simp only [enA])
                | (at_builtin; refine wpList_appS rfl (.tmp 56) (.tmp 59) 22 rfl 34 i0 _ 4 64 Try.underlying22 Hi0.out Hz0.out Hz1.out Hz2.out rfl (by decide) (.slice TA outs.length tc) outs.length (outs.flatMap enV) rfl w _ (by exact (HS6.out.alloc' _).up3) (some ⟨w6.heap.size, 0, none⟩) 1 1 [.slice AK x.key.2.2.length ck, .slice AV x.value.2.2.length cv, .int .i64 x.seq, .bool x.dead] rfl (lit_rdv _ _ _) rfl (by intro u hu; simp at hu; rcases hu with rfl | rfl | rfl | rfl <;> rfl) (by unfold maxLen; omega) (by omega) ?_; intro A3 c3 w7 hs7; have HM7 := Lib.hid (HMs.out _ _ _ _ _ _ _ hs7); clear hs7)
                | (go_at_call 68; (with_reducible refine (HFi.out _ _ _ _ _ _ HM7.out).mono ?_); rintro y w8 ⟨o2, rfl, ho2, hs8⟩; have HO2 := Lib.hid ho2; have HM8 := Lib.hid hs8; clear ho2 hs8))
              go_roundw
              · exact ⟨t + 1, _, _, A3, c3, o2, by omega, by rw [List.length_append]; rfl, rfl, HO2.out, HM8.out⟩
              · show L.length - (outs.length + 1) < L.length - outs.length
                omega
        · have ho : o = none := best_end (by omega) HD.out.1
          subst ho
          have HOu : Hid (outs.map En.ent = L) := by have h9 := HD.out.2.out; rw [List.take_of_length_le (by omega)] at h9; exact h9
          have hge : ¬ (0 : Int) ≤ -1 := by omega
          clear hol
          rw [show bestV none = Value.int .i64 (-1) from rfl]
          go_wp2_with fail
          go_ret2
          exact ⟨outs, TA, tc, rfl, HOu.out, HD.out.2.sat.right⟩
end Go.Proofs.Ytaoenbjfkahdjaa
