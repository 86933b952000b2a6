/- Joined, as they were built one by one: Ext14 ExtR Srt. -/
import Derived.Shelf.SlSortCmp.NoneTotal
import Derived.Shelf.SlicesG.Cmp
import Derived.Test.YtjmapbhgjhlefaaProg
import Derived.Test.YtjmapbhgjhlefaaQ06
import Derived.Test.YtjmapbhgjhlefaaQ11
namespace Go.Proofs.Ytjmapbhgjhlefaa
open Go.RowKit
set_option linter.unusedVariables false
set_option maxRecDepth 100000

theorem int_get {w : World} {A : Option Addr} {l : List Int} (h : RdV w A (l.map (Value.int .i64))) {k : Nat} (hk : k < l.length) : ∃ b o, A = some ⟨b, o, none⟩ ∧ w.cell? ⟨b, o + k, none⟩ = some (.int .i64 l[k]) := by
  obtain ⟨b, o, e, hc⟩ := h (by intro e; have := congrArg List.length e; simp at this; rw [this] at hk; simp at hk)
  refine ⟨b, o, e, ?_⟩
  have := hc k (by simpa using hk)
  rw [this]
  simp
def IdxX (l : List Int) (x z : Int) : Prop := (l.contains x = true ∧ 0 ≤ z) ∨ (l.contains x = false ∧ z < 0)
set_option maxHeartbeats 1000000 in
theorem index_any (A : Option Addr) (n c : Nat) (l : List Int) (x : Int) (w : World) (hr : RdV w A (l.map (Value.int .i64))) (hn : l.length = n) (hl : n ≤ 1000000000) :
    Calls Try.prog 87 #[.slice A n c, .int .i64 x] w fun e w' => (∃ z : Int, e = .returned (.int .i64 z) ∧ IdxX l x z) ∧ w = w' := by
  subst hn
  have HR := Lib.hid hr
  clear hr
  go_enter Try.func87, Try.ntmps87
  go_wp2_with fail
  go_loopw [8] (fun iv wr => ∃ k : Nat, k ≤ l.length ∧ iv = .int .i64 (k : Int) ∧ wr = w ∧ Hid (∀ j (hj : j < k) (hl : j < l.length), x ≠ l[j])) (fun iv _ => l.length - (intOf iv).toNat)
  case atStart => exact ⟨0, by omega, rfl, rfl, fun j hj => by omega⟩
  case round =>
    obtain ⟨k, hk, rfl, rfl, HD⟩ := hrel
    by_cases hlt : k < l.length
    · obtain ⟨b, o, rfl, hc⟩ := int_get HR.out hlt
      have hk2 : (k : Int) < l.length := by omega
      have HM : Hid (l[k] ∈ l) := List.getElem_mem hlt
      have HS : Hid (x ≠ l[k] → ∀ j (hj : j < k + 1) (hl : j < l.length), x ≠ l[j]) := fun hne j hj hl => by
        by_cases e : j = k
        · subst e; exact hne
        · exact HD.out j (by omega) hl
      have hkn : k + 1 ≤ l.length := hlt
      generalize l[k] = y at *
      by_cases e : x = y
      · go_wp2_with fail
        go_ret
        exact ⟨⟨(k : Int), rfl, .inl ⟨by rw [List.contains_iff_mem, e]; exact HM.out, by omega⟩⟩, rfl⟩
      · have HS2 := Lib.hid (HS.out e)
        go_wp2_with fail
        go_roundw
        · exact ⟨k + 1, hkn, by push_cast; rfl, trivial, HS2.out⟩
        · simp [intOf]; omega
    · have hk2 : ¬ (k : Int) < l.length := by omega
      have HN : Hid (l.contains x = false) := by
        unfold Hid
        rw [List.contains_eq_mem, decide_eq_false_iff_not]
        intro hm
        obtain ⟨j, hj, e⟩ := List.getElem_of_mem hm
        exact HD.out j (by omega) hj e.symm
      go_wp2_with fail
      go_ret
      exact ⟨⟨-1, rfl, .inr ⟨HN.out, by omega⟩⟩, rfl⟩
theorem contains_any (A : Option Addr) (n c : Nat) (l : List Int) (x : Int) (w : World) (hr : RdV w A (l.map (Value.int .i64))) (hn : l.length = n) (hl : n ≤ 1000000000) :
    Calls Try.prog 61 #[.slice A n c, .int .i64 x] w fun e w' => e = .returned (.bool (l.contains x)) ∧ w = w' := by
  have HI := Lib.hid (index_any A n c l x w hr hn hl)
  clear hr hn hl
  go_enter Try.func61, Try.ntmps61
  go_wp2_with (go_at_call 87; (with_reducible refine HI.out.mono ?_); rintro e wx ⟨⟨z, rfl, hz⟩, rfl⟩)
  go_ret
  rcases hz with ⟨h1, h2⟩ | ⟨h1, h2⟩
  · rw [h1]
    exact ⟨congrArg (fun b => Ending.returned (.bool b)) (decide_eq_true h2), rfl⟩
  · rw [h1]
    exact ⟨congrArg (fun b => Ending.returned (.bool b)) (decide_eq_false (by omega)), rfl⟩
def fiI (f : Fi) : List Value := [.int .i64 f.num, .int .i64 f.first, .int .i64 f.blocks]
section
variable {w0 w : World} {F : SP} {s d slot turn : Nat} {v : Value} {ps : List (Nat × Fl)} {S : Spc}
theorem ptrO_nil {ps : List (Nat × Fl)} {n : Int} (h : ps.map (·.2) = S.files) : (ptrO ps[idxN ps n]? = .pointer none ∧ (S.find n).isSome = false) ∨ ∃ q, ptrO ps[idxN ps n]? = .pointer (some ⟨q, 0, none⟩) ∧ (S.find n).isSome = true := by
  rw [idxN_find h]
  cases ps[idxN ps n]? with
  | none => exact .inl ⟨rfl, rfl⟩
  | some x => exact .inr ⟨x.1, rfl, rfl⟩
theorem fi_get {w : World} {A : Option Addr} {l : List Fi} (h : RdV w A (l.flatMap fiI)) {k : Nat} (hk : k < l.length) : ∃ b o, A = some ⟨b, o, none⟩ ∧ w.cell? ⟨b, o + k * 3, none⟩ = some (.int .i64 l[k].num) ∧ w.cell? ⟨b, o + k * 3 + 1, none⟩ = some (.int .i64 l[k].first) ∧ w.cell? ⟨b, o + k * 3 + 2, none⟩ = some (.int .i64 l[k].blocks) := by
  have hlen : ∀ l : List Fi, (l.flatMap fiI).length = l.length * 3 := fun l => by
    induction l with
    | nil => rfl
    | cons x l ih => rw [List.flatMap_cons, List.length_append, ih, List.length_cons]; show 3 + _ = _; omega
  have hget : ∀ (l : List Fi) (k j : Nat) (hk : k < l.length) (hj : j < 3), (l.flatMap fiI)[k * 3 + j]? = (fiI l[k])[j]? := fun l => by
    induction l with
    | nil => intro k j hk; cases hk
    | cons x l ih =>
      intro k j hk hj
      cases k with
      | zero =>
        rw [List.flatMap_cons, List.getElem?_append_left (by show 0 * 3 + j < 3; omega)]
        simp
      | succ k =>
        rw [List.flatMap_cons, List.getElem?_append_right (by show 3 ≤ _; omega)]
        show (l.flatMap fiI)[(k + 1) * 3 + j - 3]? = _
        rw [show (k + 1) * 3 + j - 3 = k * 3 + j by omega]
        exact ih k j (by simpa using hk) hj
  have hl := hlen l
  obtain ⟨b, o, e, hc⟩ := h (by intro e; have h9 : l.length * 3 = 0 := (by rw [← hl, e]; rfl); omega)
  have key : ∀ j, j < 3 → w.cell? ⟨b, o + k * 3 + j, none⟩ = (fiI l[k])[j]? := fun j hj => by
    have hij : k * 3 + j < (l.flatMap fiI).length := by rw [hl]; omega
    have := hc (k * 3 + j) hij
    rw [Nat.add_assoc, this, ← List.getElem?_eq_getElem hij, hget l k j hk hj]
  exact ⟨b, o, e, key 0 (by omega), key 1 (by omega), key 2 (by omega)⟩
/-- What the map of those that were seen tells. -/
def seenF (l : List Int) : Int → Option Value := fun i => if i ∈ l then some (.agg #[]) else none
theorem seenF_snoc (l : List Int) (x : Int) : upd (seenF l) x (.agg #[]) = seenF (l ++ [x]) := by
  funext i
  unfold upd seenF
  by_cases e : i = x
  · subst e; simp
  · rw [if_neg e]; simp [e]
theorem zero_st (w : World) : (zeroValue 138).run Try.prog w = .ok (.agg #[]) w := by kernel_rfl
set_option maxHeartbeats 8000000 in
theorem may_any (A1 : Option Addr) (c1 : Nat) (add : List Fi) (A2 : Option Addr) (c2 : Nat) (drop : List Int) (h : Sat w0 (SpaceC s d slot turn v ps * F) w) (hps : ps.map (·.2) = S.files) (hpl : ps.length ≤ 1000) (hadd : ∀ W, Sat w0 F W → RdV W A1 (add.flatMap fiI)) (hdrop : ∀ W, Sat w0 F W → RdV W A2 (drop.map (Value.int .i64)))
    (hn1 : add.length ≤ 1000000) (hn2 : drop.length ≤ 1000000) (hc2 : drop.length ≤ c2) (hb : ∀ f ∈ add, (-9223372036854775808 ≤ f.num ∧ f.num ≤ 9223372036854775807) ∧ (-9223372036854775808 ≤ f.blocks ∧ f.blocks ≤ 9223372036854775807)) (hbd : ∀ n ∈ drop, -9223372036854775808 ≤ n ∧ n ≤ 9223372036854775807) :
    Calls Try.prog 58 #[.pointer (some ⟨s, 0, none⟩), .slice A1 add.length c1, .slice A2 drop.length c2] w fun e w' => e = .returned (.bool (S.may add drop)) ∧ Sat w0 (SpaceC s d slot turn v ps * F) w' := by
  have HS := Lib.hid h
  have HP := Lib.hid hps
  have HF1 : Hid (∀ W, Sat w0 (SpaceC s d slot turn v ps * F) W → RdV W A1 (add.flatMap fiI)) := fun W hW => hadd W hW.right
  have HF2 : Hid (∀ W, Sat w0 (SpaceC s d slot turn v ps * F) W → RdV W A2 (drop.map (Value.int .i64))) := fun W hW => hdrop W hW.right
  have HB := Lib.hid hb
  have HM : Hid (S.may add drop = (S.mayDrop [] drop && S.mayAdd drop [] add)) := rfl
  have HFi : Hid (∀ W n, Sat w0 (SpaceC s d slot turn v ps * F) W → Calls Try.prog 69 #[.pointer (some ⟨s, 0, none⟩), .int .i64 n] W fun e w' => e = .returned (ptrO ps[idxN ps n]?) ∧ W = w') := fun W n hW => find_any n hW (by omega)
  have HCo : Hid (∀ W n, Sat w0 (SpaceC s d slot turn v ps * F) W → Calls Try.prog 61 #[.slice A2 drop.length c2, .int .i64 n] W fun e w' => e = .returned (.bool (drop.contains n)) ∧ W = w') := fun W n hW => contains_any A2 drop.length c2 drop n W (hdrop W hW.right) rfl (by omega)
  have HCk : Hid (∀ W n k, k ≤ drop.length → Sat w0 (SpaceC s d slot turn v ps * F) W → Calls Try.prog 61 #[.slice A2 k c2, .int .i64 n] W fun e w' => e = .returned (.bool ((drop.take k).contains n)) ∧ W = w') := fun W n k hk hW => contains_any A2 k c2 (drop.take k) n W (by
    intro hne
    obtain ⟨b, o, e, hc⟩ := hdrop W hW.right (by intro e; rw [List.map_eq_nil_iff] at e; rw [e] at hne; simp at hne)
    refine ⟨b, o, e, fun j hj => ?_⟩
    rw [List.length_map, List.length_take] at hj
    have := hc j (by rw [List.length_map]; omega)
    rw [this]
    simp) (by rw [List.length_take]; omega) (by omega)
  have hmm := @run_makeMap Try.prog
  clear h hps hadd hdrop hb hbd hpl
  go_enter Try.func58, Try.ntmps58
  go_wp2_with fail
  go_loopw [16] (fun iv wr => ∃ k : Nat, k ≤ drop.length ∧ iv = .int .i64 (k : Int) ∧ wr = w ∧ Hid (S.mayDrop [] drop = S.mayDrop (drop.take k) (drop.drop k))) (fun iv _ => drop.length - (intOf iv).toNat)
  case atStart => exact ⟨0, by omega, rfl, rfl, by unfold Hid; rw [List.take_zero, List.drop_zero]⟩
  case round =>
    obtain ⟨k, hk, rfl, rfl, HD⟩ := hrel
    by_cases hlt : k < drop.length
    · have hk2 : (k : Int) < drop.length := by omega
      obtain ⟨b, o, rfl, hc⟩ := int_get (HF2.out _ HS.out) hlt
      have HN : Hid (S.mayDrop [] drop = ((S.find drop[k]).isSome && !(drop.take k).contains drop[k] && S.mayDrop (drop.take (k + 1)) (drop.drop (k + 1)))) := by
        unfold Hid
        rw [HD.out, List.drop_eq_getElem_cons hlt, List.take_succ_eq_append_getElem hlt]
        rfl
      have HX := ptrO_nil (S := S) (n := drop[k]) HP.out
      have hkc : (k : Int) ≤ c2 := by omega
      have HCa := Lib.hid (HCk.out wr drop[k] k (by omega) HS.out)
      have HFa := Lib.hid (HFi.out wr drop[k] HS.out)
      have hkn : k + 1 ≤ drop.length := hlt
      generalize hB : (drop.take k).contains drop[k] = B at *
      generalize hI : (S.find drop[k]).isSome = I at *
      clear hB hI
      generalize drop[k] = x at *
      rcases HX with ⟨hx1, rfl⟩ | ⟨q, hx1, rfl⟩
      · rw [hx1] at HFa
        have HR : Hid (S.may add drop = false) := by unfold Hid; rw [HM.out, HN.out]; rfl
        go_wp2_with (go_at_call 69; (with_reducible refine HFa.out.mono ?_); rintro e wx ⟨rfl, rfl⟩)
        go_ret
        exact ⟨by rw [HR.out]; rfl, HS.out⟩
      · rw [hx1] at HFa
        cases B
        · have HN2 : Hid (S.mayDrop [] drop = S.mayDrop (drop.take (k + 1)) (drop.drop (k + 1))) := by unfold Hid; rw [HN.out]; rfl
          go_wp2_with (first | (go_at_call 69; (with_reducible refine HFa.out.mono ?_); rintro e wx ⟨rfl, rfl⟩) | (go_at_call 61; (with_reducible refine HCa.out.mono ?_); rintro e wx ⟨rfl, rfl⟩))
          go_roundw
          · exact ⟨k + 1, hkn, by push_cast; rfl, trivial, HN2.out⟩
          · simp [intOf]; omega
        · have HR : Hid (S.may add drop = false) := by unfold Hid; rw [HM.out, HN.out]; rfl
          go_wp2_with (first | (go_at_call 69; (with_reducible refine HFa.out.mono ?_); rintro e wx ⟨rfl, rfl⟩) | (go_at_call 61; (with_reducible refine HCa.out.mono ?_); rintro e wx ⟨rfl, rfl⟩))
          go_ret
          exact ⟨by rw [HR.out]; rfl, HS.out⟩
    · have hk2 : ¬ (k : Int) < drop.length := by omega
      have HM2 : Hid (S.may add drop = S.mayAdd drop [] add) := by
        unfold Hid
        rw [HM.out, HD.out, List.drop_eq_nil_of_le (by omega)]
        rfl
      have hm0 := HS.out.map_new (P := Try.prog) (k := 3)
      revert hm0
      generalize hmb : wr.heap.size = mb
      intro hm0
      have HM0 := Lib.hid hm0
      have HMb := Lib.hid hmb
      clear HD HM hm0 hmb hk
      go_upto_region 8 with fail
      rw [HMb.out]
      go_wp2_with fail
      go_loopw [36] (fun iv wr => ∃ (k n : Nat), k ≤ add.length ∧ n ≤ k ∧ iv = .int .i64 (k : Int) ∧ Hid (Sat w0 (MapP Try.prog 3 mb n (seenF ((add.take k).map (·.num))) * (SpaceC s d slot turn v ps * F)) wr ∧ S.mayAdd drop [] add = S.mayAdd drop ((add.take k).map (·.num)) (add.drop k))) (fun iv _ => add.length - (intOf iv).toNat)
      case atStart => exact ⟨0, 0, by omega, by omega, rfl, by have h9 := HM0.out; exact h9.of (by congr 1), by rw [List.take_zero, List.drop_zero]; rfl⟩
      case round =>
        obtain ⟨k, n, hk, hnk, rfl, HD⟩ := hrel
        by_cases hlt : k < add.length
        · have hk2 : (k : Int) < add.length := by omega
          obtain ⟨b, o, rfl, q0, q1, q2⟩ := fi_get (HF1.out _ HD.out.1.right) hlt
          have hbx := HB.out add[k] (List.getElem_mem hlt)
          obtain ⟨sl, hsl⟩ : ∃ sl, sl = (add.take k).map (·.num) := ⟨_, rfl⟩
          have HSn : Hid ((add.take (k + 1)).map (·.num) = sl ++ [add[k].num]) := by
            unfold Hid
            rw [List.take_succ_eq_append_getElem hlt, List.map_append, hsl]
            rfl
          have HN : Hid (S.mayAdd drop [] add = (decide (1 ≤ add[k].num ∧ add[k].num ≤ 2147483647 ∧ 1 ≤ add[k].blocks) && !sl.contains add[k].num && (!(S.find add[k].num).isSome || drop.contains add[k].num) && S.mayAdd drop ((add.take (k + 1)).map (·.num)) (add.drop (k + 1)))) := by
            unfold Hid
            rw [HD.out.2, HSn.out, List.drop_eq_getElem_cons hlt, ← hsl]
            rfl
          have hD1 := HD.out.1
          rw [← hsl] at hD1
          have hkn : k + 1 ≤ add.length := hlt
          clear HD hsl
          generalize hT : S.mayAdd drop ((add.take (k + 1)).map (·.num)) (add.drop (k + 1)) = T at *
          have HT := Lib.hid hT
          clear hT
          generalize add[k] = x at *
          obtain ⟨xn, xf, xb⟩ := x
          dsimp only at q0 q1 q2 hbx HSn HN
          have hs1 := hD1.allocPt 35 #[.int .i64 xn, .int .i64 xf, .int .i64 xb]
          clear hD1
          go_upto_region 11 with fail
          revert hs1
          generalize World.alloc wr _ = w1
          generalize wr.heap.size = B1
          intro hs1
          have HS1 := Lib.hid hs1
          clear hs1 q0 q1 q2
          have p0 : w1.cell? ⟨B1, 0, none⟩ = some (.int .i64 xn) := HS1.out.cell 0
          have p2 : w1.cell? ⟨B1, 2, none⟩ = some (.int .i64 xb) := HS1.out.cell 2
          by_cases h1 : xn < 1
          · have HR : Hid (S.may add drop = false) := by unfold Hid; rw [HM2.out, HN.out, decide_eq_false (by omega)]; rfl
            go_wp2_with fail
            go_ret
            exact ⟨by rw [HR.out]; rfl, HS1.out.right.right⟩
          by_cases h2 : 2147483647 < xn
          · have HR : Hid (S.may add drop = false) := by unfold Hid; rw [HM2.out, HN.out, decide_eq_false (by omega)]; rfl
            go_wp2_with fail
            go_ret
            exact ⟨by rw [HR.out]; rfl, HS1.out.right.right⟩
          by_cases h3 : xb < 1
          · have HR : Hid (S.may add drop = false) := by unfold Hid; rw [HM2.out, HN.out, decide_eq_false (by omega)]; rfl
            go_wp2_with fail
            go_ret
            exact ⟨by rw [HR.out]; rfl, HS1.out.right.right⟩
          have HN2 : Hid (S.may add drop = (!sl.contains xn && (!(S.find xn).isSome || drop.contains xn) && T)) := by unfold Hid; rw [HM2.out, HN.out, decide_eq_true (by omega), Bool.true_and]
          clear HN
          have hl := HS1.out.up2.map_look (t := 137) Try.underlying3 Try.underlying137 (zero_st w1) xn (by omega)
          have HFa := Lib.hid fun W (hW : Sat w0 (SpaceC s d slot turn v ps * F) W) => HFi.out W xn hW
          have HCa := Lib.hid fun W (hW : Sat w0 (SpaceC s d slot turn v ps * F) W) => HCo.out W xn hW
          have HX := ptrO_nil (S := S) (n := xn) HP.out
          have hsn : seenF sl xn = if sl.contains xn then some (.agg #[]) else none := by unfold seenF; simp
          rw [hsn] at hl
          clear hsn
          generalize hB : sl.contains xn = B at *
          generalize hI : (S.find xn).isSome = I at *
          generalize hC : drop.contains xn = C at *
          clear hB hI hC
          cases B
          · simp only [Bool.false_eq_true, if_false, Option.getD_none, Option.isSome_none] at hl
            go_upto_region 14 with fail
            have hs2 := HS1.out.alloc' (.cells #[] 138)
            revert hs2
            generalize World.alloc w1 _ = w2
            generalize w1.heap.size = B2
            intro hs2
            have HS2 := Lib.hid hs2
            clear hs2 hl p0 p2
            have p0 : w2.cell? ⟨B1, 0, none⟩ = some (.int .i64 xn) := HS2.out.cell 0
            obtain ⟨w5, hrun, hs5, _⟩ := HS2.out.up2.map_store (t := 137) Try.underlying3 Try.underlying137 xn (by omega) (.agg #[]) (by unfold maxLen; omega)
            rw [seenF_snoc] at hs5
            have HS5 := Lib.hid hs5.drop2
            have HFb := Lib.hid (HFa.out w2 HS2.out.right.right)
            have HCb := Lib.hid (HCa.out w2 HS2.out.right.right)
            clear hs5
            rcases HX with ⟨hx1, rfl⟩ | ⟨q, hx1, rfl⟩
            · rw [hx1] at HFb
              have HN3 : Hid (S.may add drop = T) := by unfold Hid; rw [HN2.out]; rfl
              go_wp2_with (first | (go_at_call 69; (with_reducible refine HFb.out.mono ?_); rintro e wx ⟨rfl, rfl⟩) | (go_at_call 61; (with_reducible refine HCb.out.mono ?_); rintro e wx ⟨rfl, rfl⟩))
              go_roundw
              · refine ⟨k + 1, n + 1, hkn, by omega, by push_cast; rfl, ?_, ?_⟩
                · rw [HSn.out]; exact HS5.out
                · rw [← HM2.out, HN3.out, HT.out]
              · simp [intOf]; omega
            · rw [hx1] at HFb
              cases C
              · have HR : Hid (S.may add drop = false) := by unfold Hid; rw [HN2.out]; rfl
                go_wp2_with (first | (go_at_call 69; (with_reducible refine HFb.out.mono ?_); rintro e wx ⟨rfl, rfl⟩) | (go_at_call 61; (with_reducible refine HCb.out.mono ?_); rintro e wx ⟨rfl, rfl⟩))
                go_ret
                exact ⟨by rw [HR.out]; rfl, HS2.out.right.right⟩
              · have HN3 : Hid (S.may add drop = T) := by unfold Hid; rw [HN2.out]; rfl
                go_wp2_with (first | (go_at_call 69; (with_reducible refine HFb.out.mono ?_); rintro e wx ⟨rfl, rfl⟩) | (go_at_call 61; (with_reducible refine HCb.out.mono ?_); rintro e wx ⟨rfl, rfl⟩))
                go_roundw
                · refine ⟨k + 1, n + 1, hkn, by omega, by push_cast; rfl, ?_, ?_⟩
                  · rw [HSn.out]; exact HS5.out
                  · rw [← HM2.out, HN3.out, HT.out]
                · simp [intOf]; omega
          · simp only [if_true, Option.getD_some, Option.isSome_some] at hl
            have HR : Hid (S.may add drop = false) := by unfold Hid; rw [HN2.out]; rfl
            go_wp2_with fail
            go_ret
            exact ⟨by rw [HR.out]; rfl, (HS1.out.alloc' _).right.right⟩
        · have hk2 : ¬ (k : Int) < add.length := by omega
          have HT : Hid (S.may add drop = true) := by
            unfold Hid
            rw [HM2.out, HD.out.2, List.drop_eq_nil_of_le (by omega)]
            rfl
          go_wp2_with fail
          go_ret
          exact ⟨by rw [HT.out]; rfl, HD.out.1.right⟩
end
end Go.Proofs.Ytjmapbhgjhlefaa
namespace Go.Proofs.Ytjmapbhgjhlefaa
open Go.RowKit
set_option linter.unusedVariables false
set_option maxRecDepth 100000

def takenB (l : List (Nat × Nat)) (b : Nat) : Bool := l.any fun p => decide (p.1 ≤ b ∧ b < p.1 + p.2)
/-- How many blocks in a row are free, behind k blocks. -/
def runR (l : List (Nat × Nat)) : Nat → Nat
  | 0 => 0
  | k + 1 => if takenB l (2 + k) then 0 else runR l k + 1
section
variable {l : List (Nat × Nat)} {n k bl a : Nat}
theorem runR_le : ∀ k, runR l k ≤ k
  | 0 => Nat.le_refl _
  | k + 1 => by
    have := runR_le k
    unfold runR
    split <;> omega
theorem runR_free : ∀ k j, 2 + k - runR l k ≤ j → j < 2 + k → takenB l j = false
  | 0, j, h1, h2 => by unfold runR at h1; omega
  | k + 1, j, h1, h2 => by
    have hle := runR_le (l := l) k
    unfold runR at h1
    split at h1
    · omega
    · rename_i ht
      by_cases e : j = 2 + k
      · subst e; simpa using ht
      · exact runR_free k j (by omega) (by omega)
/-- So many are free: then it was just so many at some place ahead. -/
theorem runR_hit (hb : 1 ≤ bl) : ∀ k, bl ≤ runR l k → ∃ i, i < k ∧ runR l (i + 1) = bl
  | 0, h => by unfold runR at h; omega
  | k + 1, h => by
    by_cases e : runR l (k + 1) = bl
    · exact ⟨k, by omega, e⟩
    · have h2 : bl ≤ runR l k := by
        unfold runR at h e
        split at h
        · omega
        · rename_i ht
          rw [if_neg ht] at e
          omega
      obtain ⟨i, h3, h4⟩ := runR_hit hb k h2
      exact ⟨i, by omega, h4⟩
theorem runR_ge : ∀ (m : Nat) (ha : 2 ≤ a) (hf : ∀ j, a ≤ j → j < a + m → takenB l j = false), m ≤ runR l (a + m - 2)
  | 0, _, _ => Nat.zero_le _
  | m + 1, ha, hf => by
    have ih := runR_ge m ha (fun j h1 h2 => hf j h1 (by omega))
    rw [show a + (m + 1) - 2 = (a + m - 2) + 1 by omega]
    unfold runR
    rw [hf (2 + (a + m - 2)) (by omega) (by omega)]
    simp only [Bool.false_eq_true, if_false]
    omega
theorem freeAt_iff (hb : 1 ≤ bl) (hl : ∀ p ∈ l, 1 ≤ p.2) : freeAt n l (bl : Int) a ↔ a + bl ≤ n ∧ ∀ j, a ≤ j → j < a + bl → takenB l j = false := by
  unfold freeAt takenB
  constructor
  · rintro ⟨h1, h2⟩
    refine ⟨by omega, fun j h3 h4 => ?_⟩
    rw [List.any_eq_false]
    intro p hp
    have h5 := h2 p hp
    simp only [decide_eq_true_eq, not_and]
    omega
  · rintro ⟨h1, h2⟩
    refine ⟨by omega, fun p hp => ?_⟩
    have hp2 := hl p hp
    rcases Nat.lt_or_ge p.1 (a + bl) with h3 | h3
    · rcases Nat.lt_or_ge a (p.1 + p.2) with h4 | h4
      · exfalso
        have h5 := h2 (max a p.1) (by omega) (by omega)
        rw [List.any_eq_false] at h5
        have h6 := h5 p hp
        simp only [decide_eq_true_eq, not_and] at h6
        omega
      · right; omega
    · left; omega
/-- The document finds what the code finds. -/
theorem placeR_found (hb : 1 ≤ bl) (hl : LieOk n l) (hk : k + 2 < n) (h1 : runR l (k + 1) = bl) (h2 : ∀ i, i < k → runR l (i + 1) ≠ bl) : placeX n (bl : Int) 2 (sortF l) = (2 + k + 1 - bl, true) := by
  obtain ⟨p1, p2⟩ := place_sort (bl := (bl : Int)) (by omega) hl
  have hle := runR_le (l := l) (k + 1)
  have hf : freeAt n l (bl : Int) (2 + k + 1 - bl) := (freeAt_iff hb fun p hp => (hl.each p hp).2.1).2 ⟨by omega, fun j h3 h4 => runR_free (k + 1) j (by omega) (by omega)⟩
  obtain ⟨q1, q2⟩ := p2 (2 + k + 1 - bl) (by omega) hf
  obtain ⟨q3, q4⟩ := p1 q1
  obtain ⟨a, o, e⟩ : ∃ a o, placeX n (bl : Int) 2 (sortF l) = (a, o) := ⟨_, _, rfl⟩
  rw [e] at q1 q2 q3 q4 ⊢
  simp only at q1 q2 q3 q4
  obtain ⟨q5, q6⟩ := (freeAt_iff hb fun p hp => (hl.each p hp).2.1).1 q4
  have h6 := runR_ge bl q3 q6
  obtain ⟨i, h7, h8⟩ := runR_hit hb _ h6
  have h9 : ¬ i < k := fun hi => h2 i hi h8
  rw [q1]
  congr 1
  omega
theorem placeR_none (hb : 1 ≤ bl) (hl : LieOk n l) (h2 : ∀ i, i + 2 < n → runR l (i + 1) ≠ bl) : (placeX n (bl : Int) 2 (sortF l)).2 = false := by
  obtain ⟨p1, p2⟩ := place_sort (bl := (bl : Int)) (by omega) hl
  cases ho : (placeX n (bl : Int) 2 (sortF l)).2 with
  | false => rfl
  | true =>
    exfalso
    obtain ⟨q3, q4⟩ := p1 ho
    obtain ⟨q5, q6⟩ := (freeAt_iff hb fun p hp => (hl.each p hp).2.1).1 q4
    have h6 := runR_ge bl q3 q6
    obtain ⟨i, h7, h8⟩ := runR_hit hb _ h6
    exact h2 i (by omega) h8
theorem place_big {b : Int} (hb : (n : Int) < b) (hl : LieOk n l) : (placeX n b 2 (sortF l)).2 = false := by
  obtain ⟨p1, p2⟩ := place_sort (bl := b) (by omega) hl
  cases ho : (placeX n b 2 (sortF l)).2 with
  | false => rfl
  | true =>
    exfalso
    obtain ⟨q3, q4⟩ := p1 ho
    have := q4.1
    omega
end
/-! By numbers. -/
def ltN (p q : Fl) : Prop := p.num < q.num
theorem sorted_eq : ∀ {l m : List Fl}, l.Perm m → l.Pairwise ltN → m.Pairwise ltN → l = m
  | [], m, h, _, _ => by rw [List.nil_perm.1 h]
  | x :: l, [], h, _, _ => by cases List.perm_nil.1 h
  | x :: l, y :: m, h, hl, hm => by
    obtain ⟨l1, l2⟩ := List.pairwise_cons.1 hl
    obtain ⟨m1, m2⟩ := List.pairwise_cons.1 hm
    have e : x = y := by
      rcases List.mem_cons.1 (h.mem_iff.1 (List.mem_cons_self)) with e | hx
      · exact e
      · rcases List.mem_cons.1 (h.mem_iff.2 (List.mem_cons_self)) with e | hy
        · exact e.symm
        · have a := m1 x hx
          have b := l1 y hy
          unfold ltN at a b
          omega
    subst e
    rw [sorted_eq ((List.perm_cons x).1 h) l2 m2]
/-- The document lays a new file ahead of the first one whose number is not less. -/
def insR (f : Fl) (l : List Fl) : List Fl := l.takeWhile (fun g => decide (g.num < f.num)) ++ f :: l.dropWhile (fun g => decide (g.num < f.num))
theorem insR_perm (f : Fl) (l : List Fl) : (insR f l).Perm (f :: l) := by
  unfold insR
  refine List.perm_middle.trans ?_
  rw [List.takeWhile_append_dropWhile]
theorem insR_sorted {f : Fl} : ∀ {l : List Fl}, l.Pairwise ltN → (∀ g ∈ l, g.num ≠ f.num) → (insR f l).Pairwise ltN
  | [], _, _ => List.pairwise_singleton _ _
  | g :: l, h, hn => by
    obtain ⟨h1, h2⟩ := List.pairwise_cons.1 h
    have hg := hn g (by simp)
    have ih := insR_sorted (f := f) h2 (fun x hx => hn x (List.mem_cons_of_mem _ hx))
    unfold insR at ih ⊢
    by_cases hlt : g.num < f.num
    · rw [List.takeWhile_cons, List.dropWhile_cons, if_pos (by simpa using hlt), if_pos (by simpa using hlt), List.cons_append]
      refine List.pairwise_cons.2 ⟨fun x hx => ?_, ih⟩
      have := (insR_perm f l).mem_iff.1 hx
      rcases List.mem_cons.1 this with rfl | hx
      · exact hlt
      · exact h1 x hx
    · rw [List.takeWhile_cons, List.dropWhile_cons, if_neg (by simpa using hlt), if_neg (by simpa using hlt), List.nil_append]
      refine List.pairwise_cons.2 ⟨fun x hx => ?_, h⟩
      rcases List.mem_cons.1 hx with rfl | hx
      · unfold ltN; omega
      · have := h1 x hx
        unfold ltN at this ⊢; omega
/-- The document's row behind all that is added. -/
def addR : List Fl → List Fl → List Fl
  | [], l => l
  | f :: fs, l => addR fs (insR f l)
theorem addR_all : ∀ (news kept : List Fl), kept.Pairwise ltN → ((kept ++ news).map (·.num)).Nodup → addR news kept = sortN (kept ++ news)
  | [], kept, h, hn => by
    rw [List.append_nil] at hn ⊢
    exact sorted_eq (sortN_perm kept).symm h (pw_strict (sortN_sorted kept) (((sortN_perm kept).map _).nodup_iff.2 hn))
  | f :: fs, kept, h, hn => by
    have hp : (insR f kept ++ fs).Perm (kept ++ f :: fs) := ((insR_perm f kept).append_right fs).trans (by
      rw [List.cons_append]
      exact List.perm_middle.symm)
    have hn2 : ((insR f kept ++ fs).map (·.num)).Nodup := ((hp.map _).nodup_iff).2 hn
    have hne : ∀ g ∈ kept, g.num ≠ f.num := fun g hg e => by
      rw [List.map_append, List.nodup_append] at hn
      exact hn.2.2 g.num (List.mem_map_of_mem hg) f.num (by simp) e
    show addR fs (insR f kept) = _
    rw [addR_all fs (insR f kept) (insR_sorted h hne) hn2]
    have s1 := pw_strict (sortN_sorted _) (((sortN_perm (insR f kept ++ fs)).map _).nodup_iff.2 hn2)
    have s2 := pw_strict (sortN_sorted _) (((sortN_perm (kept ++ f :: fs)).map _).nodup_iff.2 hn)
    exact sorted_eq ((sortN_perm _).trans (hp.trans (sortN_perm _).symm)) s1 s2
end Go.Proofs.Ytjmapbhgjhlefaa
namespace Go.Proofs.Ytjmapbhgjhlefaa
set_option maxRecDepth 100000
open Go.Shelf
def sortLie_ren : Go.Shelf.Ren := ⟨fun | 6 => 62 | 15 => 89 | 14 => 88 | 28 => 104 | 29 => 105 | 20 => 96 | 21 => 97 | 22 => 98 | 23 => 99 | 24 => 100 | 25 => 101 | 26 => 102 | 27 => 103 | 46 => 115 | 47 => 116 | 48 => 117 | 49 => 118 | 50 => 119 | 57 => 123 | n => n, fun | 22 => 36 | 24 => 35 | 25 => 107 | 3 => 3 | 39 => 59 | 0 => 0 | 53 => 159 | 55 => 99 | 4 => 4 | 46 => 153 | 45 => 152 | 50 => 112 | 5 => 5 | 9 => 9 | 66 => 166 | 70 => 170 | 76 => 174 | 77 => 175 | n => n, fun | n => n⟩
theorem sortLie : Go.Proofs.SlLaysF0.n6 Try.prog sortLie_ren := {
  mixed := by kernel_rfl
  f6 := ⟨Try.f62.name, by decide, Try.func62.trans (congrArg some (by kernel_rfl))⟩
  f14 := ⟨Try.f88.name, by decide, Try.func88.trans (congrArg some (by kernel_rfl))⟩
  f15 := Try.func89.trans (congrArg some (by kernel_rfl))
  f20 := ⟨Try.f96.name, by decide, Try.func96.trans (congrArg some (by kernel_rfl))⟩
  f21 := ⟨Try.f97.name, by decide, Try.func97.trans (congrArg some (by kernel_rfl))⟩
  f22 := ⟨Try.f98.name, by decide, Try.func98.trans (congrArg some (by kernel_rfl))⟩
  f23 := ⟨Try.f99.name, by decide, Try.func99.trans (congrArg some (by kernel_rfl))⟩
  f24 := ⟨Try.f100.name, by decide, Try.func100.trans (congrArg some (by kernel_rfl))⟩
  f25 := ⟨Try.f101.name, by decide, Try.func101.trans (congrArg some (by kernel_rfl))⟩
  f26 := ⟨Try.f102.name, by decide, Try.func102.trans (congrArg some (by kernel_rfl))⟩
  f27 := ⟨Try.f103.name, by decide, Try.func103.trans (congrArg some (by kernel_rfl))⟩
  f28 := Try.func104.trans (congrArg some (by kernel_rfl))
  f29 := Try.func105.trans (congrArg some (by kernel_rfl))
  f46 := ⟨Try.f115.name, by decide, Try.func115.trans (congrArg some (by kernel_rfl))⟩
  f47 := Try.func116.trans (congrArg some (by kernel_rfl))
  f48 := Try.func117.trans (congrArg some (by kernel_rfl))
  f49 := ⟨Try.f118.name, by decide, Try.func118.trans (congrArg some (by kernel_rfl))⟩
  f50 := ⟨Try.f119.name, by decide, Try.func119.trans (congrArg some (by kernel_rfl))⟩
  f57 := ⟨Try.f123.name, by decide, Try.func123.trans (congrArg some (by kernel_rfl))⟩
  t0 := Try.underlying0
  a0 := Try.isAgg0
  z0 := Try.sizeOf0
  v0 := Try.zeroValue0
  t3 := Try.underlying3
  a3 := Try.isAgg3
  z3 := Try.sizeOf3
  v3 := Try.zeroValue3
  t4 := Try.underlying4
  a4 := Try.isAgg4
  z4 := Try.sizeOf4
  v4 := Try.zeroValue4
  t5 := Try.underlying5
  a5 := Try.isAgg5
  z5 := Try.sizeOf5
  v5 := Try.zeroValue5
  t9 := Try.underlying9
  a9 := Try.isAgg9
  z9 := Try.sizeOf9
  v9 := Try.zeroValue9
  t22 := Try.underlying36
  a22 := Try.isAgg36
  z22 := Try.sizeOf36
  v22 := Try.zeroValue36
  t25 := Try.underlying107
  a25 := Try.isAgg107
  z25 := Try.sizeOf107
  v25 := Try.zeroValue107
  t39 := Try.underlying59
  a39 := Try.isAgg59
  z39 := Try.sizeOf59
  v39 := Try.zeroValue59
  t45 := Try.underlying152
  a45 := Try.isAgg152
  z45 := Try.sizeOf152
  v45 := Try.zeroValue152
  t46 := Try.underlying153
  a46 := Try.isAgg153
  z46 := Try.sizeOf153
  v46 := Try.zeroValue153
  t50 := Try.underlying112
  a50 := Try.isAgg112
  z50 := Try.sizeOf112
  v50 := Try.zeroValue112
  t53 := Try.underlying159
  a53 := Try.isAgg159
  z53 := Try.sizeOf159
  v53 := Try.zeroValue159
  t55 := Try.underlying99
  a55 := Try.isAgg99
  z55 := Try.sizeOf99
  v55 := Try.zeroValue99
  t66 := Try.underlying166
  a66 := Try.isAgg166
  z66 := Try.sizeOf166
  v66 := Try.zeroValue166
  t70 := Try.underlying170
  a70 := Try.isAgg170
  z70 := Try.sizeOf170
  v70 := Try.zeroValue170
  t76 := Try.underlying174
  a76 := Try.isAgg174
  z76 := Try.sizeOf174
  v76 := Try.zeroValue174
  t77 := Try.underlying175
  a77 := Try.isAgg175
  z77 := Try.sizeOf175
  v77 := Try.zeroValue175 }
def sortFls_ren : Go.Shelf.Ren := ⟨fun | 6 => 64 | 15 => 89 | 14 => 90 | 28 => 104 | 29 => 105 | 20 => 106 | 21 => 107 | 22 => 108 | 23 => 109 | 24 => 110 | 25 => 111 | 26 => 112 | 27 => 113 | 46 => 120 | 47 => 116 | 48 => 117 | 49 => 121 | 50 => 122 | 57 => 124 | n => n, fun | 22 => 100 | 24 => 104 | 25 => 115 | 3 => 3 | 39 => 59 | 0 => 0 | 53 => 159 | 55 => 99 | 4 => 4 | 46 => 153 | 45 => 152 | 50 => 112 | 5 => 5 | 9 => 9 | 66 => 166 | 70 => 170 | 76 => 174 | 77 => 175 | n => n, fun | n => n⟩
theorem sortFls : Go.Proofs.SlLaysF.n6 Try.prog sortFls_ren := {
  mixed := by kernel_rfl
  f6 := ⟨Try.f64.name, by decide, Try.func64.trans (congrArg some (by kernel_rfl))⟩
  f14 := ⟨Try.f90.name, by decide, Try.func90.trans (congrArg some (by kernel_rfl))⟩
  f15 := Try.func89.trans (congrArg some (by kernel_rfl))
  f20 := ⟨Try.f106.name, by decide, Try.func106.trans (congrArg some (by kernel_rfl))⟩
  f21 := ⟨Try.f107.name, by decide, Try.func107.trans (congrArg some (by kernel_rfl))⟩
  f22 := ⟨Try.f108.name, by decide, Try.func108.trans (congrArg some (by kernel_rfl))⟩
  f23 := ⟨Try.f109.name, by decide, Try.func109.trans (congrArg some (by kernel_rfl))⟩
  f24 := ⟨Try.f110.name, by decide, Try.func110.trans (congrArg some (by kernel_rfl))⟩
  f25 := ⟨Try.f111.name, by decide, Try.func111.trans (congrArg some (by kernel_rfl))⟩
  f26 := ⟨Try.f112.name, by decide, Try.func112.trans (congrArg some (by kernel_rfl))⟩
  f27 := ⟨Try.f113.name, by decide, Try.func113.trans (congrArg some (by kernel_rfl))⟩
  f28 := Try.func104.trans (congrArg some (by kernel_rfl))
  f29 := Try.func105.trans (congrArg some (by kernel_rfl))
  f46 := ⟨Try.f120.name, by decide, Try.func120.trans (congrArg some (by kernel_rfl))⟩
  f47 := Try.func116.trans (congrArg some (by kernel_rfl))
  f48 := Try.func117.trans (congrArg some (by kernel_rfl))
  f49 := ⟨Try.f121.name, by decide, Try.func121.trans (congrArg some (by kernel_rfl))⟩
  f50 := ⟨Try.f122.name, by decide, Try.func122.trans (congrArg some (by kernel_rfl))⟩
  f57 := ⟨Try.f124.name, by decide, Try.func124.trans (congrArg some (by kernel_rfl))⟩
  t0 := Try.underlying0
  a0 := Try.isAgg0
  z0 := Try.sizeOf0
  v0 := Try.zeroValue0
  t3 := Try.underlying3
  a3 := Try.isAgg3
  z3 := Try.sizeOf3
  v3 := Try.zeroValue3
  t4 := Try.underlying4
  a4 := Try.isAgg4
  z4 := Try.sizeOf4
  v4 := Try.zeroValue4
  t5 := Try.underlying5
  a5 := Try.isAgg5
  z5 := Try.sizeOf5
  v5 := Try.zeroValue5
  t9 := Try.underlying9
  a9 := Try.isAgg9
  z9 := Try.sizeOf9
  v9 := Try.zeroValue9
  t22 := Try.underlying100
  a22 := Try.isAgg100
  z22 := Try.sizeOf100
  v22 := Try.zeroValue100
  a24 := Try.isAgg104
  z24 := Try.sizeOf104
  t25 := Try.underlying115
  a25 := Try.isAgg115
  z25 := Try.sizeOf115
  v25 := Try.zeroValue115
  t39 := Try.underlying59
  a39 := Try.isAgg59
  z39 := Try.sizeOf59
  v39 := Try.zeroValue59
  t45 := Try.underlying152
  a45 := Try.isAgg152
  z45 := Try.sizeOf152
  v45 := Try.zeroValue152
  t46 := Try.underlying153
  a46 := Try.isAgg153
  z46 := Try.sizeOf153
  v46 := Try.zeroValue153
  t50 := Try.underlying112
  a50 := Try.isAgg112
  z50 := Try.sizeOf112
  v50 := Try.zeroValue112
  t53 := Try.underlying159
  a53 := Try.isAgg159
  z53 := Try.sizeOf159
  v53 := Try.zeroValue159
  t55 := Try.underlying99
  a55 := Try.isAgg99
  z55 := Try.sizeOf99
  v55 := Try.zeroValue99
  t66 := Try.underlying166
  a66 := Try.isAgg166
  z66 := Try.sizeOf166
  v66 := Try.zeroValue166
  t70 := Try.underlying170
  a70 := Try.isAgg170
  z70 := Try.sizeOf170
  v70 := Try.zeroValue170
  t76 := Try.underlying174
  a76 := Try.isAgg174
  z76 := Try.sizeOf174
  v76 := Try.zeroValue174
  t77 := Try.underlying175
  a77 := Try.isAgg175
  z77 := Try.sizeOf175
  v77 := Try.zeroValue175 }
def cmpInt_ren : Go.Shelf.Ren := ⟨fun | 5 => 60 | 7 => 86 | n => n, fun | 22 => 3 | 3 => 3 | 4 => 4 | n => n, fun | n => n⟩
theorem cmpInt : Go.Proofs.SlLaysC2.n5 Try.prog cmpInt_ren := {
  mixed := by kernel_rfl
  f5 := ⟨Try.f60.name, by decide, Try.func60.trans (congrArg some (by kernel_rfl))⟩
  f7 := ⟨Try.f86.name, by decide, Try.func86.trans (congrArg some (by kernel_rfl))⟩
  t3 := Try.underlying3
  a3 := Try.isAgg3
  z3 := Try.sizeOf3
  v3 := Try.zeroValue3
  t4 := Try.underlying4
  a4 := Try.isAgg4
  z4 := Try.sizeOf4
  v4 := Try.zeroValue4
  t22 := Try.underlying3
  a22 := Try.isAgg3
  z22 := Try.sizeOf3
  v22 := Try.zeroValue3 }
end Go.Proofs.Ytjmapbhgjhlefaa

