/- MemAll: the walk. -/
import Derived.Test.YtlcifkkgekpicaaMemSeq
import Derived.Test.YtlcifkkgekpicaaMemNewest
import Derived.Deep.CutBlock
import Derived.Shelf.Abstract
import Derived.Shelf.RegionOpen
import Derived.RangeFuncCalls
namespace Go.Proofs.Ytlcifkkgekpicaa
open Go.RowKit Go.Shelf
set_option linter.unusedVariables false

def noPan (Q : Exit → Act → World → Prop) : Exit → Act → World → Prop
  | .panic _, _, _ => False
  | .normal, a, w => Q .normal a w
  | .ret, a, w => Q .ret a w
  | .exit i, a, w => Q (.exit i) a w
  | .goto i, a, w => Q (.goto i) a w
  | .outgrown, a, w => Q .outgrown a w
theorem noPan_of {Q : Exit → Act → World → Prop} : ∀ e a w, noPan Q e a w → Q e a w := fun e a w h => by
  cases e with
  | panic => exact h.elim
  | _ => exact h
theorem equalIn_fn_nil (d gf : Nat) (cap : Array Value) (W : World) : (Op.equalIn (d + 1) 44 (.func (.func gf) #[] cap) .nilFunc).run Try.prog W = .ok false W := by
  simp [Op.equalIn, run_underlying Try.underlying44]
theorem equal_fn_nil (gf : Nat) (cap : Array Value) (W : World) : (Op.equal 44 (.func (.func gf) #[] cap) .nilFunc).run Try.prog W = .ok false W := equalIn_fn_nil 9999 gf cap W
theorem fn_not_nil (gf : Nat) (cap : Array Value) (W : World) : (binOp BinOp.eql 44 (.func (.func gf) #[] cap) .nilFunc).run Try.prog W = .ok (.bool false) W := by
  simp [binOp, go_sem, equal_fn_nil]
attribute [local go_sem] Oper.semAt_some
set_option maxRecDepth 100000 in
set_option maxHeartbeats 4000000 in
theorem memAll_walk (A : Option Addr) (cap : Nat) (l : List PuD) (A2 : Option Addr) (cap2 : Nat) (m : List PuD) (w : World) (hl : PusIn w A cap l) (hm : PusIn w A2 cap2 m) :
    Calls Try.prog 5 #[.slice A l.length cap, .slice A2 m.length cap2] w (Asked true w) := by
  obtain ⟨hc1, hc2, hl1, hl2, hl3⟩ := hl
  obtain ⟨hd1, hd2, hm1, hm2, hm3⟩ := hm
  have HL := Lib.hid hl1
  have HI := Lib.hid hl3
  have HM := Lib.hid hm1
  have HMI := Lib.hid hm3
  unfold maxLen at hc2 hd2
  clear hl1 hl3 hm1 hm3
  have HW := Lib.hid ((Sat.start w).allocPt 4 #[.bool false])
  have hw0 : (w.alloc (.cells #[.bool false] 4)).heap.size = w.heap.size + 1 := by simp
  refine (callsIn_wide (n := 12)).1 (callsIn_of_wp_marks Try.func5 rfl trivial (wpIn_wide.2 (wp_mono ?_ noPan_of)) rfl)
  simp only [Try.ntmps5, List.size_toArray, List.length_cons, List.length_nil, Nat.reduceAdd, Nat.reduceSub, Array.replicate_succ, Array.replicate_zero, List.push_toArray, List.append_toArray, List.nil_append, List.cons_append]
  go_upto_block 0 with (first
    | (go_at_call 13; refine (newT_any w _ _ HW.out).mono ?_; rintro x w1 ⟨b, hr, rfl, hs1⟩; have HS1 := Lib.hid hs1; clear hs1)
    | (go_at_call 12; refine (mwakes_any _).mono ?_; rintro x w2 ⟨rfl, k2⟩; have HS2 := Lib.hid (HS1.out.new k2); clear k2))
  have hrb : Hid (w.heap.size = w.heap.size) := rfl
  obtain ⟨rb, hrbe⟩ : ∃ rb, w.heap.size = rb := ⟨_, rfl⟩
  rw [hrbe] at HS2
  rw [hrbe]
  have HRB := Lib.hid hrbe
  clear hrbe hrb HS1 HW hw0
  go_cut [6] from 12 (fun i wx => ∃ (k : Nat) (ns : List Nd), k ≤ 60 ∧ i = .int .i64 k ∧ Hid (Tab ns k ∧ Sat w (SkipT b hr ns * (Pt rb 4 #[.bool false] * Emp)) wx))
  case first =>
    go_wp2_with fail
    go_loopw [6] (fun i wr => ∃ (k : Nat) (ns : List Nd), k ≤ 60 ∧ k ≤ l.length ∧ i = .int .i64 k ∧ Hid (Tab ns k ∧ Sat w (SkipT b hr ns * (Pt rb 4 #[.bool false] * Emp)) wr)) (fun i _ => 60 - (intOf i).toNat)
    case atStart => exact ⟨0, [], by omega, by omega, rfl, tab_nil 0, HS2.out⟩
    case round =>
      obtain ⟨k, ns, hk80, hkl, rfl, HD⟩ := hrel
      by_cases hx : k < l.length ∧ k < 60
      · obtain ⟨hlt, h80⟩ := hx
        · obtain ⟨lb, lo, rfl, hq⟩ := puts_at HL.out (by omega)
          obtain ⟨z0, z1, z2, z3, z4⟩ := hq k hlt
          have a0 := HD.out.2.chg.cell z0 id; have a1 := HD.out.2.chg.cell z1 id; have a2 := HD.out.2.chg.cell z2 id; have a3 := HD.out.2.chg.cell z3 id; have a4 := HD.out.2.chg.cell z4 id
          have Z4 := Lib.hid z4
          unfold slv' at a0 a1
          clear hq z0 z1 z2 z3 z4
          have HE := Lib.hid (HI.out l[k] (List.getElem_mem _)).1
          have hkk : k ≤ 1000 := by omega
          go_wp2_with fail
          go_region_law (first
            | (go_simp; go_at_call 15; (with_reducible refine (cutS l[k].e HD.out.2.drew HE.out.k2 HE.out.v2).mono ?_); rintro x w5 ⟨rfl, hs5⟩; have HS5 := Lib.hid hs5; have b4 := hs5.chg.cell Z4.out id; clear hs5)
            | (go_simp; go_at_call 14; (with_reducible refine (putC b hr ns k l[k].H l[k].e HS5.out HD.out.1 hkk HE.out).mono ?_); rintro x w6 ⟨ns', rfl, ht6, ha6, hs6⟩; have HT6 := Lib.hid ht6; have HS6 := Lib.hid hs6; clear ht6 ha6 hs6))
          all_goals
            go_wp2_with fail
            go_roundw
            · exact ⟨k + 1, ns', by omega, by omega, by push_cast; rfl, HT6.out, HS6.out⟩
            · simp [intOf]; omega
      · have hor : (l.length ≤ k) ∨ (k < l.length ∧ 60 ≤ k) := by omega
        clear hx
        rcases hor with hx | ⟨hx, hx2⟩
        all_goals
          go_wp2_with fail
          go_meet
          exact ⟨k, ns, by omega, rfl, HD.out⟩
  case rest =>
    obtain ⟨k, ns, hk60, rfl, HD⟩ := hcut
    have h1000 : k ≤ 1000 := by omega
    clear HS2
    go_upto_block 2 with (first
      | (go_at_call 17; (with_reducible refine (allO_any b hr ns k w _ _ HD.out.2 HD.out.1 h1000).mono ?_); rintro x w5 ⟨es, EA, ec, rfl, hes, hec, hem, hs5⟩; have HES := Lib.hid hes; have HEC := Lib.hid hec; have HEM := Lib.hid hem; have HS5 := Lib.hid ((hs5.allocPt 25 #[.slice EA es.length ec]).up4); obtain ⟨wb, hwb⟩ : ∃ wb, wb = w5.heap.size := ⟨_, rfl⟩; rw [← hwb] at HS5; have HWB := Lib.hid hwb; clear hes hec hem hs5 hwb)
      | (go_at_call 19; (with_reducible refine (all_seq b hr ns k w _ _ HS5.out HD.out.1 h1000).mono ?_); rintro x w6 ⟨bx, fs, FA, fc, rfl, hfs, hfc, hfm, hs6⟩; have HFS := Lib.hid hfs; have HFC := Lib.hid hfc; have HFM := Lib.hid hfm; have HS6 := Lib.hid hs6.up4; clear hfs hfc hfm hs6))
    rw [← HWB.out]
    obtain ⟨G, hG⟩ : ∃ G : SP, (Pt bx 25 #[.slice FA fs.length fc] * (Row 24 4 (.slice FA fs.length fc) fs.length (fs.flatMap enV) * (OwnE fs * (Pt wb 25 #[.slice EA es.length ec] * (Row 24 4 (.slice EA es.length ec) es.length (es.flatMap enV) * (OwnE es * (Pt rb 4 #[.bool false] * Emp))))))) = G := ⟨_, rfl⟩
    rw [hG] at HS6
    have HG := Lib.hid hG
    have HT := Lib.hid HD.out.1
    clear hG HS5
    go_cut [9] from 12 (fun i wx => ∃ (j : Nat) (ns2 : List Nd), Hid (Sat w (SkipT b hr ns2 * G) wx))
    case first =>
      go_wp2_with fail
      go_loopw [9] (fun i wr => ∃ (j : Nat) (ns2 : List Nd), j ≤ 20 ∧ j ≤ m.length ∧ i = .int .i64 j ∧ Hid (Tab ns2 (k + j) ∧ Sat w (SkipT b hr ns2 * G) wr)) (fun i _ => 20 - (intOf i).toNat)
      case atStart => exact ⟨0, ns, by omega, by omega, rfl, HT.out, HS6.out⟩
      case round =>
        obtain ⟨j, ns2, hj20, hjl, rfl, HD2⟩ := hrel
        by_cases hx : j < m.length ∧ j < 20
        · obtain ⟨hlt, h80⟩ := hx
          · obtain ⟨lb, lo, rfl, hq⟩ := puts_at HM.out (by omega)
            obtain ⟨z0, z1, z2, z3, z4⟩ := hq j hlt
            have a0 := HD2.out.2.chg.cell z0 id; have a1 := HD2.out.2.chg.cell z1 id; have a2 := HD2.out.2.chg.cell z2 id; have a3 := HD2.out.2.chg.cell z3 id; have a4 := HD2.out.2.chg.cell z4 id
            have Z4 := Lib.hid z4
            unfold slv' at a0 a1
            clear hq z0 z1 z2 z3 z4
            have HE := Lib.hid (HMI.out m[j] (List.getElem_mem _)).1
            have hkk : k + j ≤ 1000 := by omega
            go_wp2_with fail
            go_region_law (first
              | (go_simp; go_at_call 15; (with_reducible refine (cutS m[j].e HD2.out.2.drew HE.out.k2 HE.out.v2).mono ?_); rintro x w5 ⟨rfl, hs5⟩; have HS5 := Lib.hid hs5; have b4 := hs5.chg.cell Z4.out id; clear hs5)
              | (go_simp; go_at_call 14; (with_reducible refine (putC b hr ns2 (k + j) m[j].H m[j].e HS5.out HD2.out.1 hkk HE.out).mono ?_); rintro x w6 ⟨ns', rfl, ht6, ha6, hs6⟩; have HT6 := Lib.hid ht6; have HS6 := Lib.hid hs6; clear ht6 ha6 hs6))
            all_goals
              go_wp2_with fail
              go_roundw
              · exact ⟨j + 1, ns', by omega, by omega, by push_cast; rfl, HT6.out, HS6.out⟩
              · simp [intOf]; omega
        · have hor : (m.length ≤ j) ∨ (j < m.length ∧ 20 ≤ j) := by omega
          clear hx
          rcases hor with hx | ⟨hx, hx2⟩
          all_goals
            go_wp2_with fail
            go_meet
            exact ⟨j, ns2, HD2.out.2⟩
    case rest =>
      obtain ⟨j, ns2, HD2⟩ := hcut
      have HS7 : Hid (Sat w (Pt bx 25 #[.slice FA fs.length fc] * (Row 24 4 (.slice FA fs.length fc) fs.length (fs.flatMap enV) * (OwnE fs * (Pt wb 25 #[.slice EA es.length ec] * (Row 24 4 (.slice EA es.length ec) es.length (es.flatMap enV) * (OwnE es * (Pt rb 4 #[.bool false] * Emp))))))) _) := (HD2.out.right).of HG.out.symm
      clear HD2 HG HS6
      have hnf := fun W => fn_not_nil 41 #[.pointer (some ⟨bx, 0, none⟩)] W
      go_upto_region 17 with fail
      go_wp2_with fail
      have hs8 := HS7.out.allocPt 3 #[.int .i64 0]
      have n0 := hs8.cell 0
      have n1 := hs8.frozen 0
      have HN := Lib.hid HS7.out
      have hsz : wc.heap.size < (wc.alloc (.cells #[.int .i64 0] 3)).heap.size := by simp
      have HKW : Hid (Chg No wc (wc.alloc (.cells #[.int .i64 0] 3))) := (Chg.refl No wc).alloc _
      obtain ⟨bn, hbn⟩ : ∃ bn, bn = wc.heap.size := ⟨_, rfl⟩
      obtain ⟨W, hW⟩ : ∃ W, W = wc.alloc (.cells #[.int .i64 0] 3) := ⟨_, rfl⟩
      rw [← hbn, ← hW] at n0 n1
      rw [← hbn, ← hW] at hsz
      rw [← hW] at HKW
      rw [← hbn, ← hW]
      have HFE := Lib.hid (told_short HT.out HFS.out)
      have hesl : es.length = fs.length := by
        have h1 := congrArg List.length HES.out
        have h2 := congrArg List.length HFS.out
        rw [List.length_map] at h1 h2
        omega
      have hfs60 : fs.length ≤ 1000 := by
        have h2 := congrArg List.length HFS.out
        rw [List.length_map, fsts_len] at h2
        have := HT.out.len
        omega
      have HMap : Hid (es.map En.ent = fs.map En.ent) := HES.out.trans HFS.out.symm
      have HBn := Lib.hid hbn
      clear hs8 hW hbn
      refine (wpIn_wide (n := 12)).1 (rangeFn (ps := _) (gf := 41) (lb := #[.pointer (some ⟨bx, 0, none⟩)]) bn hsz rfl (enters_of Try.func41 (by kernel_rfl) rfl) (encs := fun x : En => #[enA x]) (fun _ => rfl)
        (fun pre x B => EnR B x ∧ (fs.map En.ent)[pre.length]? = some x.ent) (fun xs => xs.map En.ent = fs.map En.ent) ?seq
        (fun pre B => Hid (B.cell? ⟨bn, 0, none⟩ = some (.int .i64 (pre.length : Int)) ∧ B.frozen? ⟨bn, 0, none⟩ = false ∧ Chg (From wc.heap.size) wc B)) ?hI ?h0 ?round ?done)
      case seq =>
        intro l J V hl kV hJ hY h0
        exact seq_any bx FA fc fs wc V (HN.out.cell 0) (Sat.row_rdK (h := HN.out.up2)) (ownE_r HN.out.up3) HFC.out HFM.out HFE.out hfs60 bn l (by have := HBn.out; omega) (by have := HBn.out; omega) J ((HKW.out.no).tr kV.no) hJ hY h0
      case hI =>
        rintro pre A B h k
        obtain ⟨h1, h2, h3⟩ := h.out
        have hno : ¬ From W.heap.size bn := fun h => by have : W.heap.size ≤ bn := h; omega
        exact ⟨k.cell h1 hno, (k.frozen (p := ⟨bn, 0, none⟩) (World.block_lt_of_cell? A _ h1) hno).trans h2, h3.trans k fun i _ hi => by have : W.heap.size ≤ i := hi; have := HBn.out; show wc.heap.size ≤ i; omega⟩
      case h0 => exact ⟨n0, n1, HKW.out.no⟩
      case round =>
        intro l pre x A hl hi hok
        have HI := Lib.hid hi
        have HOk := Lib.hid hok
        unfold enA
        clear hi hok
        gi_wp2
        refine ⟨(Chg.refl No A).alloc _, ?_⟩
        intro A2 k2 hc2
        obtain ⟨c1, c2, c3⟩ := HI.out
        obtain ⟨hxr, hxi⟩ := HOk.out
        obtain ⟨hlp', hxe⟩ := List.getElem?_eq_some_iff.1 hxi
        have hlf : pre.length < fs.length := by rw [List.length_map] at hlp'; exact hlp'
        have hlp : pre.length < es.length := by omega
        have kA := (Chg.refl No A).alloc (.cells #[.slice x.key.1 x.key.2.2.length x.key.2.1, .slice x.value.1 x.value.2.2.length x.value.2.1, .int .i64 x.seq, .bool x.dead] 24)
        have K2 : Chg (From wc.heap.size) wc A2 := (c3.tr kA.no).trans k2 fun i _ hi => by have : W.heap.size ≤ i := hi; have := HBn.out; show wc.heap.size ≤ i; omega
        have m0 := (hc2 _).trans (kA.cell c1 id)
        have hno : ¬ From W.heap.size bn := fun h => by have : W.heap.size ≤ bn := h; omega
        have hlt1 := World.block_lt_of_cell? A _ c1
        have m1 : A2.frozen? ⟨bn, 0, none⟩ = false := (k2.frozen (p := ⟨bn, 0, none⟩) (Nat.lt_of_lt_of_le hlt1 kA.size) hno).trans ((kA.frozen (p := ⟨bn, 0, none⟩) hlt1 id).trans c2)
        have m2 := K2.cellB (HN.out.up4.cell 0)
        have hs2 := (Sat.start A).allocPt 24 #[.slice x.key.1 x.key.2.2.length x.key.2.1, .slice x.value.1 x.value.2.2.length x.value.2.1, .int .i64 x.seq, .bool x.dead]
        have e0 := (hc2 _).trans (hs2.cell 0); have e1 := (hc2 _).trans (hs2.cell 1); have e2 := (hc2 _).trans (hs2.cell 2); have e3 := (hc2 _).trans (hs2.cell 3)
        obtain ⟨eb, eo, rfl, hq⟩ := ents_at (Sat.row_rdK (h := HN.out.up5)) (by omega)
        obtain ⟨z0, z1, z2, z3⟩ := hq pre.length hlp
        have a0 := K2.cellB z0; have a1 := K2.cellB z1; have a2 := K2.cellB z2; have a3 := K2.cellB z3
        unfold slv' at a0 a1
        have hput : ∀ {Ad : Option Addr} {xs : List Value}, RdV A Ad xs → RdV A2 Ad xs := fun h hx => by
          obtain ⟨b', o', e', hcell⟩ := (h.new kA) hx
          exact ⟨b', o', e', fun j hj => (hc2 _).trans (hcell j hj)⟩
        have HX : Hid (EnR A2 x) := ⟨hput hxr.1, hput hxr.2⟩
        have HY : Hid (EnR A2 es[pre.length]) := EnR.keepB K2 (ownE_r HN.out.up6 _ (List.getElem_mem hlp))
        have HXY : Hid (eqE x.ent es[pre.length].ent = true) := by
          have h1 : es[pre.length].ent = x.ent := by
            rw [← hxe]
            have h2 := HMap.out
            have h3 : (es.map En.ent)[pre.length]'(by rw [List.length_map]; exact hlp) = (fs.map En.ent)[pre.length]'hlp' := by simp only [h2]
            rw [← h3, List.getElem_map]
          unfold Hid
          rw [h1]
          exact (eqE_iff _ _).2 rfl
        have HK2 := Lib.hid K2
        have hpi : ((pre.length : Nat) : Int) < es.length := by omega
        have hpi2 : ¬ ((es.length : Nat) : Int) ≤ pre.length := by omega
        clear hxr hxi hxe c1 c2 c3 hs2 hq z0 z1 z2 z3 hput K2 kA k2 hc2 hlt1 hno HI HOk
        have HFin : Hid (∀ w9, Chg No A2.drew w9 → Chg (One bn) A2 (w9.setCell ⟨bn, 0, none⟩ (.int .i64 ((pre.length : Int) + 1))) ∧ Hid ((w9.setCell ⟨bn, 0, none⟩ (.int .i64 ((pre.length : Int) + 1))).cell? ⟨bn, 0, none⟩ = some (.int .i64 ((pre ++ [x]).length : Int)) ∧ (w9.setCell ⟨bn, 0, none⟩ (.int .i64 ((pre.length : Int) + 1))).frozen? ⟨bn, 0, none⟩ = false ∧ Chg (From wc.heap.size) wc (w9.setCell ⟨bn, 0, none⟩ (.int .i64 ((pre.length : Int) + 1))))) := by
          intro w9 k9
          have hb := World.block_lt_of_cell? A2 _ m0
          have m9 := k9.cell (show A2.drew.cell? ⟨bn, 0, none⟩ = some (.int .i64 (pre.length : Int)) from m0) id
          have k8 : Chg (One bn) A2 (w9.setCell ⟨bn, 0, none⟩ (.int .i64 ((pre.length : Int) + 1))) := Chg.setCell (S := One bn) (((Chg.refl No A2).drew.tr k9).no) (p := ⟨bn, 0, none⟩) (fun _ => rfl) _
          refine ⟨k8, ?_, ?_, ?_⟩
          · rw [World.cell?_setCell_same' _ _ _ (by rw [m9]; rfl), List.length_append, List.length_singleton]
            push_cast
            rfl
          · rw [World.frozen?_setCell]
            exact (k9.frozen (p := ⟨bn, 0, none⟩) hb id).trans m1
          · exact HK2.out.trans k8 fun i _ (hi : i = bn) => by have := HBn.out; show wc.heap.size ≤ i; omega
        clear HK2
        have hmix : Try.prog.follows Departure.mixedOrders = true := by kernel_rfl
        have hbA : bn < A2.heap.size := World.block_lt_of_cell? A2 _ m0
        gi_wp2
        gi_region_with_o (refine ⟨trivial, ?_⟩; gi_at_call 18; refine (CallsIn.inRound l (callsIn_wide.2 (eqE_any x es[pre.length] _ (HX.out.new (Chg.refl No A2).drew) (HY.out.new (Chg.refl No A2).drew)))).mono ?_; rintro y w9 ⟨rfl, k9⟩; rw [HXY.out]; have m9 := k9.cell (show A2.drew.cell? ⟨bn, 0, none⟩ = some (.int .i64 (pre.length : Int)) from m0) id; have g9 := (k9.frozen (p := ⟨bn, 0, none⟩) hbA id).trans m1; have HK9 := Lib.hid k9; clear k9)
        all_goals
          gi_wp2
          exact HFin.out _ HK9.out
      case done =>
        intro D xs B hD hS hI hK
        obtain ⟨c1, c2, c3⟩ := hI.out
        have hxl : xs.length = es.length := by
          have h1 := congrArg List.length hS
          rw [List.length_map, List.length_map] at h1
          omega
        rw [hxl] at c1
        have m2 := c3.cellB (HN.out.up4.cell 0)
        have hrb7 := HN.out.right.right.right.right.right.right
        have r0 := c3.cellB (hrb7.cell 0)
        have hrw : rb < wc.heap.size := hrb7.lt
        have r1 : B.frozen? ⟨rb, 0, none⟩ = false := (c3.frozen (p := ⟨rb, 0, none⟩) hrw (Nat.not_le_of_lt hrw)).trans (hrb7.frozen 0)
        have hDw : wc.heap.size < D := by have := HBn.out; omega
        have HC3 := Lib.hid c3
        have HKD := Lib.hid hK
        have hrb0 : w.heap.size ≤ rb := by have := HRB.out; omega
        clear c3 hK hI
        go_wp2_with fail
        have k5 : Chg (One rb) B (B.setCell ⟨rb, 0, none⟩ (.bool true)) := Chg.setCell (S := One rb) (Chg.refl _ _) (p := ⟨rb, 0, none⟩) (fun _ => rfl) _
        have hK' := (k5.block D (lt_of_block HKD.out) (fun e => by have e' : D = rb := e; omega)).trans HKD.out
        refine ⟨by simp, .inl ⟨_, _, rfl, run_takeDeferred hK', ?_⟩⟩
        have hc5 : ((B.setCell ⟨rb, 0, none⟩ (.bool true)).putObj D (.deferred none)).cell? ⟨rb, 0, none⟩ = some (.bool true) :=
          (cell_put hK' rfl rfl _).trans (World.cell?_setCell_same' B ⟨rb, 0, none⟩ (.bool true) (by rw [r0]; rfl))
        refine ⟨.bool true, ?_, rfl, ?_⟩
        · simp [results, Try.f5, go_sem, hc5]
        · have q1 := HN.out.chg
          have q2 := q1.own HC3.out (fun i hi => by have : wc.heap.size ≤ i := hi; have := q1.size; omega)
          have q3 := q2.own k5 (fun i hi => by have e' : i = rb := hi; omega)
          exact q3.own (chg_put _ D _) (fun i hi => by have e' : i = D := hi; have := q1.size; omega)
end Go.Proofs.Ytlcifkkgekpicaa
