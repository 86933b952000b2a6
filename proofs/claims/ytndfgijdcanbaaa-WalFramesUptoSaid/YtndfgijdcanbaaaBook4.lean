/- The book is closed. -/
import Derived.Test.YtndfgijdcanbaaaBook3
namespace Go.Proofs.Ytndfgijdcanbaaa
open Go.RowKit
set_option linter.unusedVariables false

def Filled (es : Rows_) (q : Nat) : Prop := ∀ p, p < q → ∀ x, es[p]? = some x → x.2.2 = List.replicate x.2.2.length (fb p)
def Half (es : Rows_) (q p : Nat) : Prop := ∀ x, es[q]? = some x → ∀ r, r < p → x.2.2[r]? = some (fb q)
structure Fill1 (b1 : Nat) (es : Rows_) (w wr : World) (q : Nat) (es' : Rows_) : Prop where
  shape : es'.map slOf = es.map slOf
  own : OwnL b1 wr es'
  full : Filled es' q
  chg : Chg (EntB es) w wr

theorem bv_fb (q : Nat) : bv (fb q) = .int .u8 ((q : Int) % 256) := by
  simp [bv, fb, UInt8.toNat_ofNat']
theorem Filled.set {es : Rows_} {q : Nat} (h : Filled es q) (y : Option Addr × Nat × List UInt8) : Filled (es.set q y) q := fun p hp x hx => by
  rw [List.getElem?_set_ne (by omega)] at hx
  exact h p hp x hx
theorem Half.set {es : Rows_} {q p : Nat} (h : Half es q p) (hq : q < es.length) (hp : p < es[q].2.2.length) : Half (es.set q (es[q].1, es[q].2.1, es[q].2.2.set p (fb q))) q (p + 1) := fun x hx r hr => by
  rw [List.getElem?_set_self hq] at hx
  injection hx with hx
  subst hx
  by_cases e : r = p
  · subst e
    rw [List.getElem?_set_self hp]
  · rw [List.getElem?_set_ne (by omega)]
    exact h _ (List.getElem?_eq_getElem hq) r (by omega)
theorem Filled.next {es : Rows_} {q : Nat} (h : Filled es q) {hq : q < es.length} (h2 : Half es q es[q].2.2.length) : Filled es (q + 1) := fun p hp x hx => by
  by_cases e : p = q
  · subst e
    have h3 := h2 x hx
    rw [List.getElem?_eq_getElem hq] at hx
    injection hx with hx
    rw [hx] at h3
    refine List.ext_getElem (by simp) fun r h4 h5 => ?_
    have := h3 r h4
    rw [List.getElem?_eq_getElem h4] at this
    injection this with this
    rw [this]; simp
  · exact h p (by omega) x hx
structure Grow (b1 : Nat) (es : Rows_) (w w1 wr : World) (es1 gs : Rows_) (gr : Value) (q : Nat) : Prop where
  own : OwnL b1 wr es1
  row : wr.ownsRow w.heap.size 24 1 gr gs.length (gs.map slOf)
  len : gs.length = q
  rows : ∀ y ∈ gs, wr.ownsRow b1 5 1 (slOf y) y.2.2.length (y.2.2.map bv)
  text : ∀ (p : Nat) (y : Option Addr × Nat × List UInt8), gs[p]? = some y → ∃ x, es1[p]? = some x ∧ y.2.2 = x.2.2 ++ [fb (p + 100), fb (p + 101)]
  blk : ∀ (p : Nat) (y : Option Addr × Nat × List UInt8), gs[p]? = some y → ∀ g, (slOf y).ownBlock = some g → (∃ x, es1[p]? = some x ∧ (slOf x).ownBlock = some g) ∨ w1.heap.size ≤ g
  chg : Chg (EntB es) w wr
  size : w1.heap.size ≤ wr.heap.size

theorem Grow.now {b1 : Nat} {es : Rows_} {w w1 wr : World} {es1 gs : Rows_} {gr : Value} {q : Nat} (h : Grow b1 es w w1 wr es1 gs gr q) (h1 : OwnL b1 w1 es1) (hq : q < es1.length) (hb : b1 ≤ wr.heap.size)
    {wA w3 wB w4 : World} {v3 v4 : Value} (kA : Chg No wr wA)
    (a1 : Appd b1 5 1 wA (slOf es1[q]) es1[q].2.2.length 1 (es1[q].2.2.map bv ++ [.int .u8 (((q : Int) + 100) % 256)]) v3 w3) (kB : Chg No w3 wB)
    (a2 : Appd b1 5 1 wB v3 (es1[q].2.2.length + 1) 1 (es1[q].2.2.map bv ++ [.int .u8 (((q : Int) + 100) % 256)] ++ [.int .u8 (((q : Int) + 101) % 256)]) v4 w4) :
    OwnL b1 w4 es1 ∧ Chg (fun g => some g = (slOf es1[q]).ownBlock) wr w4 ∧ (∀ g, v4.ownBlock = some g → (slOf es1[q]).ownBlock = some g ∨ wr.heap.size ≤ g) := by
  have e1 : (Value.int .u8 (((q : Int) + 100) % 256)) = bv (fb (q + 100)) := by rw [bv_fb]; rfl
  have e2 : (Value.int .u8 (((q : Int) + 101) % 256)) = bv (fb (q + 101)) := by rw [bv_fb]; rfl
  rw [e1] at a1
  rw [e1, e2] at a2
  exact grow2 h.own hq hb kA a1 kB a2
theorem Grow.step {b1 : Nat} {es : Rows_} {w w1 wr : World} {es1 gs : Rows_} {gr : Value} {q : Nat} (h : Grow b1 es w w1 wr es1 gs gr q) (h1 : OwnL b1 w1 es1) (shape : es1.map slOf = es.map slOf) (hq : q < es1.length)
    {w4 wC w5 : World} {A4 : Option Addr} {c4 : Nat} {v5 : Value}
    (G2 : OwnL b1 w4 es1 ∧ Chg (fun g => some g = (slOf es1[q]).ownBlock) wr w4 ∧ (∀ g, (Value.slice A4 (es1[q].2.2.length + 1 + 1) c4).ownBlock = some g → (slOf es1[q]).ownBlock = some g ∨ wr.heap.size ≤ g))
    (own4 : w4.ownsRow b1 5 1 (.slice A4 (es1[q].2.2.length + 1 + 1) c4) (es1[q].2.2.length + 1 + 1) (es1[q].2.2.map bv ++ [.int .u8 (((q : Int) + 100) % 256)] ++ [.int .u8 (((q : Int) + 101) % 256)]))
    (kC : Chg No w4 wC) (own3 : wC.ownsRow w.heap.size 24 1 gr gs.length (gs.map slOf))
    (a3 : Appd w.heap.size 24 1 wC gr gs.length 1 (gs.map slOf ++ [.slice A4 (es1[q].2.2.length + 1 + 1) c4]) v5 w5) :
    Grow b1 es w w1 w5 es1 (gs ++ [(A4, c4, es1[q].2.2 ++ [fb (q + 100), fb (q + 101)])]) v5 (q + 1) := by
  have e1 : (Value.int .u8 (((q : Int) + 100) % 256)) = bv (fb (q + 100)) := by rw [bv_fb]; rfl
  have e2 : (Value.int .u8 (((q : Int) + 101) % 256)) = bv (fb (q + 101)) := by rw [bv_fb]; rfl
  rw [e1, e2] at own4
  have hn : ∀ p y, (gs ++ [(A4, c4, es1[q].2.2 ++ [fb (q + 100), fb (q + 101)])])[p]? = some y → gs[p]? = some y ∨ p = q ∧ y = (A4, c4, es1[q].2.2 ++ [fb (q + 100), fb (q + 101)]) := fun p y hy => by
    by_cases hp : p < gs.length
    · rw [List.getElem?_append_left hp] at hy
      exact .inl hy
    · rw [List.getElem?_append_right (by omega)] at hy
      have h0 : p - gs.length = 0 := by
        rcases Nat.eq_zero_or_pos (p - gs.length) with e | e
        · exact e
        · rw [List.getElem?_eq_none (by simp; omega)] at hy; cases hy
      rw [h0] at hy
      refine .inr ⟨by have := h.len; omega, ?_⟩
      simpa using hy.symm
  refine ⟨(G2.1.new kC).step a3.chg (own_at own3 (by decide)), ?_, by simp [h.len], fun y hy => ?_, fun p y hy => ?_, fun p y hy g hg => ?_, ?_, ?_⟩
  · have := a3.own
    simpa [slOf, Nat.add_assoc] using this
  · obtain ⟨p, hp, he⟩ := List.mem_iff_getElem.1 hy
    have hy? := List.getElem?_eq_getElem hp
    rw [he] at hy?
    refine own_step (own_chg (S := No) ?_ kC fun _ _ => id) a3.chg (own_at own3 (by decide))
    rcases hn p y hy? with h5 | ⟨rfl, rfl⟩
    · refine own_chg (h.rows y (List.mem_of_getElem? h5)) G2.2.1 fun g hg hg' => ?_
      rcases h.blk p y h5 g hg with ⟨x, hx, hxg⟩ | h6
      · have hpq : p ≠ q := by
          have := (List.getElem?_eq_some_iff.1 h5).1
          have := h.len
          omega
        obtain ⟨hpl, rfl⟩ := List.getElem?_eq_some_iff.1 hx
        have ha := List.pairwise_iff_getElem.1 h.own.apart
        rcases Nat.lt_or_gt_of_ne hpq with hlt | hlt
        · exact ha p q hpl hq hlt g hxg hg'.symm
        · exact ha q p hq hpl hlt g hg'.symm hxg
      · have := (h1.own es1[q] (List.getElem_mem hq)).lt g hg'.symm
        omega
    · have : (es1[p].2.2 ++ [fb (p + 100), fb (p + 101)]).length = es1[p].2.2.length + 1 + 1 := by simp
      simp only [slOf, this]
      simpa using own4
  · rcases hn p y hy with h5 | ⟨rfl, rfl⟩
    · exact h.text p y h5
    · exact ⟨_, List.getElem?_eq_getElem hq, rfl⟩
  · rcases hn p y hy with h5 | ⟨rfl, rfl⟩
    · exact h.blk p y h5 g hg
    · rcases G2.2.2 g (by simpa [slOf, Value.ownBlock] using hg) with h6 | h6
      · exact .inl ⟨_, List.getElem?_eq_getElem hq, h6⟩
      · exact .inr (Nat.le_trans h.size h6)
  · refine ((h.chg.trans G2.2.1 fun i _ hi => ent_shape shape ⟨_, List.getElem_mem hq, hi.symm⟩).new kC).trans a3.chg fun i hi e => ?_
    have := (own3.lt i e.symm).1
    omega
  · exact Nat.le_trans h.size (Nat.le_trans G2.2.1.size (Nat.le_trans kC.size a3.chg.size))

def Closed (es : Rows_) (w : World) (e : Ending) (w' : World) : Prop := e = .returned (.bool true) ∧ Chg (EntB es) w w'
set_option maxRecDepth 100000 in
set_option maxHeartbeats 8000000 in
theorem close_bytes (b1 b2 k : Nat) (es : Rows_) (vb vs : Value) (w : World) (hh : BookHead w k vb vs) (hrow : w.ownsRow b2 24 1 vb es.length (es.map slOf)) (ho : OwnL b1 w es) (hb : b1 ≤ w.heap.size)
    (hn : es.length ≤ 400) (hl : ∀ x ∈ es, x.2.2.length ≤ 140737488355000) : Calls Try.prog 25 #[.pointer (some ⟨k, 0, none⟩)] w (Closed es w) := by
  obtain ⟨i0, hi, hz0, hz1, hz2⟩ := info_parts info_sl
  obtain ⟨i8, hi8, hy0, hy1, hy2⟩ := info_parts info_u8
  obtain ⟨Ab, cb, rfl, _, _, _, _⟩ := own_rd hrow
  have HH := Lib.hid hh
  have HRow := Lib.hid hrow
  have HO := Lib.hid ho
  have HLe := Lib.hid hl
  clear hh hrow ho hl
  have HK : Hid (∀ wr, Chg (EntB es) w wr → wr.cell? ⟨k, 0, none⟩ = some (.slice Ab es.length cb)) := fun wr kk => by
    rw [(HH.out.at_.chg kk (ent_not HO.out HH.out.at_ (by decide))).cell]; rfl
  have HV : Hid (∀ wr, Chg (EntB es) w wr → RdV wr Ab (es.map slOf)) := fun wr kk => RdV.of_own (own_step HRow.out kk (ent_at HO.out (by decide)))
  go_enter Try.func25, Try.ntmps25
  go_wp2
  go_loopw [3] (fun i wr => ∃ q : Nat, q ≤ es.length ∧ i = .int .i64 q ∧ ∃ es', Hid (Fill1 b1 es w wr q es')) (fun i _ => es.length - (intOf i).toNat)
  case atStart => exact ⟨0, by omega, rfl, es, rfl, HO.out, fun p hp => by omega, Chg.refl _ _⟩
  case round =>
    obtain ⟨q, hq, rfl, es1, HD⟩ := hrel
    have hk0 := HK.out _ HD.out.chg
    by_cases hlt : q < es.length
    · obtain ⟨b, o, rfl, hc⟩ := RdV.get (HV.out _ HD.out.chg) (j := q) (by simpa using hlt)
      have hc0 : wr.cell? ⟨b, o + q, none⟩ = some (.slice es[q].1 es[q].2.2.length es[q].2.1) := by rw [hc]; simp [slOf]
      clear hc
      have HC : Hid (∀ wx, Chg (EntB es) w wx → wx.cell? ⟨b, o + q, none⟩ = some (.slice es[q].1 es[q].2.2.length es[q].2.1)) := fun wx kk => by
        obtain ⟨b', o', e, hc⟩ := RdV.get (HV.out _ kk) (j := q) (by simpa using hlt)
        injection e with e; injection e with e1 e2; subst e1; subst e2
        rw [hc]; simp [slOf]
      have hli : (q : Int) < es.length := by omega
      have hq6 : q < 1000 := by omega
      have hX : Hid (es[q].2.2.length ≤ 140737488355000) := HLe.out _ (List.getElem_mem hlt)
      have HS : Hid (∀ es2 : Rows_, es2.map slOf = es.map slOf → ∃ hq' : q < es2.length, es2[q].1 = es[q].1 ∧ es2[q].2.2.length = es[q].2.2.length ∧ es2[q].2.1 = es[q].2.1) := fun es2 h2 => shape_get h2 hlt
      generalize es[q].1 = ax at *
      generalize es[q].2.2.length = nx at *
      generalize es[q].2.1 = cx at *
      have hnx : nx ≤ 140737488355000 := hX.out
      go_wp2_with fail
      obtain ⟨wb, rfl⟩ : ∃ wb : World, wb = wr := ⟨_, rfl⟩
      go_loopw [4] (fun j wx => ∃ p : Nat, p ≤ nx ∧ j = .int .i64 p ∧ ∃ es2, Hid (Fill1 b1 es w wx q es2 ∧ Half es2 q p)) (fun j _ => nx - (intOf j).toNat)
      case atStart => exact ⟨0, by omega, rfl, es1, HD.out, fun x _ r hr => by omega⟩
      case round =>
        obtain ⟨p, hp, rfl, es2, HD2⟩ := hrel
        have hk0' := HK.out _ HD2.out.1.chg
        have hc' := HC.out _ HD2.out.1.chg
        by_cases hlt2 : p < nx
        · obtain ⟨hq2, e1, e2, e3⟩ := HS.out es2 HD2.out.1.shape
          obtain ⟨g, hg, hcell0, hfr, hput⟩ := HD2.out.1.own.put hq2 (j := p) (by omega)
          rw [e1] at hg
          subst hg
          obtain ⟨c0, hcell⟩ : ∃ c : UInt8, wr.cell? ⟨g, p, none⟩ = some (.int .u8 (c.toNat : Int)) := ⟨_, hcell0⟩
          clear hcell0
          have HP := Lib.hid (hput (fb q))
          clear hput
          have hpi : (p : Int) < nx := by omega
          have HE : Hid (es2[q].1 = some ⟨g, 0, none⟩ ∧ es2[q].2.2.length = nx ∧ es2[q].2.1 = cx) := ⟨e1, e2, e3⟩
          clear e1 e2 e3
          go_wp2_with fail
          go_roundw
          case rel =>
            refine ⟨p + 1, by omega, by go_num, es2.set q (es2[q].1, es2[q].2.1, es2[q].2.2.set p (fb q)), ?_⟩
            rw [← bv_fb]
            exact ⟨⟨(shape_set hq2 _ (by simp)).trans HD2.out.1.shape, HP.out.1, HD2.out.1.full.set _, HD2.out.1.chg.trans HP.out.2 (fun i _ hi => ent_shape HD2.out.1.shape hi)⟩, HD2.out.2.set hq2 (by have := HE.out.2.1; omega)⟩
          case measure => simp [intOf]; omega
        · have hpe : p = nx := by omega
          subst hpe
          go_wp2_with fail
          go_roundw
          case rel =>
            obtain ⟨hq2, e1, e2, e3⟩ := HS.out es2 HD2.out.1.shape
            exact ⟨q + 1, by omega, by go_num, es2, HD2.out.1.shape, HD2.out.1.own, HD2.out.1.full.next (by rw [e2]; exact HD2.out.2), HD2.out.1.chg⟩
          case measure => simp [intOf]; omega
    · have hqe : q = es.length := by omega
      subst hqe
      obtain ⟨w1, rfl⟩ : ∃ w1 : World, w1 = wr := ⟨_, rfl⟩
      go_wp2_with fail
      go_loopw [5, 6] (fun gr i wr => ∃ q : Nat, q ≤ es.length ∧ i = .int .i64 q ∧ ∃ gs, Hid (Grow b1 es w w1 wr es1 gs gr q)) (fun _ i _ => es.length - (intOf i).toNat)
      case atStart => exact ⟨0, by omega, rfl, [], HD.out.own, World.ownsRow_nil _ _ _ _, rfl, by simp, by simp, by simp, HD.out.chg, Nat.le_refl _⟩
      case round =>
        obtain ⟨q, hq, rfl, gs, HG⟩ := hrel
        have hk1 := HK.out _ HG.out.chg
        clear hk0
        by_cases hlt : q < es.length
        · obtain ⟨b, o, rfl, hc⟩ := RdV.get (HV.out _ HG.out.chg) (j := q) (by simpa using hlt)
          obtain ⟨hq1, e1, e2, e3⟩ := shape_get HD.out.shape hlt
          have hc0 : wr.cell? ⟨b, o + q, none⟩ = some (.slice es1[q].1 es1[q].2.2.length es1[q].2.1) := by rw [hc, e1, e2, e3]; simp [slOf]
          clear hc
          have hli : (q : Int) < es.length := by omega
          have hq6 : q < 1000 := by omega
          have HX : Hid (es1[q].2.2.length ≤ 140737488355000) := by have := HLe.out _ (List.getElem_mem hlt); rw [e2]; exact this
          clear e1 e2 e3
          have HOx := Lib.hid (HG.out.own.own es1[q] (List.getElem_mem hq1))
          have K1 := Lib.hid ((Chg.refl No wr).alloc (.cells #[.int .u8 (((q : Int) + 100) % 256)] 5))
          have O1 := Lib.hid (own_chg HOx.out K1.out (fun _ _ => id))
          have LB : Hid (b1 ≤ wr.heap.size) := Nat.le_trans hb HG.out.chg.size
          go_wp2_with (first
            | (at_builtin; refine wpList_app rfl (.tmp 58) (.tmp 62) 24 rfl b1 5 i8 _ 1 1 Try.underlying24 hi8 hy0 hy1 hy2 rfl (by decide) (.slice es1[q].1 es1[q].2.2.length es1[q].2.1) es1[q].2.2.length (es1[q].2.2.map bv) rfl O1.out (some ⟨wr.heap.size, 0, none⟩) 1 1 [.int .u8 (((q : Int) + 100) % 256)] rfl (RdV.lit wr #[.int .u8 (((q : Int) + 100) % 256)] 5 (0, 0)) rfl (by simp [Value.oneCell']) (by have := HX.out; unfold maxLen; omega) (by have := HX.out; omega) (Nat.le_trans LB.out K1.out.size) ?_; intro v3 w3 hap; have HA := Lib.hid hap; clear hap; obtain ⟨A3, c3, hv3, _⟩ := own_rd HA.out.own; subst hv3;
                           have K2 := Lib.hid ((Chg.refl No w3).alloc (.cells #[.int .u8 (((q : Int) + 101) % 256)] 5)); have O2 := Lib.hid (own_chg HA.out.own K2.out (fun _ _ => id)); have L3 : Hid (b1 ≤ w3.heap.size) := Lib.hid (Nat.le_trans LB.out (Nat.le_trans K1.out.size HA.out.chg.size)))
            | (at_builtin; refine wpList_app rfl (.tmp 65) (.tmp 69) 24 rfl b1 5 i8 _ 1 1 Try.underlying24 hi8 hy0 hy1 hy2 rfl (by decide) (.slice A3 (es1[q].2.2.length + 1) c3) (es1[q].2.2.length + 1) (es1[q].2.2.map bv ++ [.int .u8 (((q : Int) + 100) % 256)]) rfl O2.out (some ⟨w3.heap.size, 0, none⟩) 1 1 [.int .u8 (((q : Int) + 101) % 256)] rfl (RdV.lit w3 #[.int .u8 (((q : Int) + 101) % 256)] 5 (0, 0)) rfl (by simp [Value.oneCell']) (by have := HX.out; unfold maxLen; omega) (by have := HX.out; omega) (Nat.le_trans L3.out K2.out.size) ?_; intro v4 w4 hap; have HA2 := Lib.hid hap; clear hap; obtain ⟨A4, c4, hv4, _⟩ := own_rd HA2.out.own; subst hv4;
                           have G2 := Lib.hid (HG.out.now HD.out.own hq1 LB.out K1.out HA.out K2.out HA2.out); have K3 := Lib.hid ((Chg.refl No w4).alloc (.cells #[.slice A4 (es1[q].2.2.length + 1 + 1) c4] 24)); have O3 := Lib.hid (own_chg (own_step HG.out.row G2.out.2.1 (own_at HOx.out (by decide))) K3.out (fun _ _ => id)); have L4 : Hid (w.heap.size ≤ (w4.alloc (.cells #[.slice A4 (es1[q].2.2.length + 1 + 1) c4] 24)).heap.size) := Lib.hid (Nat.le_trans HG.out.chg.size (Nat.le_trans G2.out.2.1.size K3.out.size)); have L5 : Hid (gs.length ≤ 400) := Lib.hid (by have := HG.out.len; omega))
            | (at_builtin; refine wpList_app rfl (.tmp 64) (.tmp 71) 22 rfl w.heap.size 24 i0 _ 1 24 Try.underlying22 hi hz0 hz1 hz2 rfl (by decide) u5 gs.length (gs.map slOf) rfl O3.out (some ⟨w4.heap.size, 0, none⟩) 1 1 [.slice A4 (es1[q].2.2.length + 1 + 1) c4] rfl (RdV.lit w4 #[.slice A4 (es1[q].2.2.length + 1 + 1) c4] 24 (0, 0)) rfl (by simp [Value.oneCell']) (by have := L5.out; unfold maxLen; omega) (by have := L5.out; omega) L4.out ?_; intro v5 w5 hap; have HA3 := Lib.hid hap; clear hap))
          go_roundw
          case rel => exact ⟨q + 1, by omega, by go_num, _, HG.out.step HD.out.own HD.out.shape hq1 G2.out HA2.out.own K3.out O3.out HA3.out⟩
          case measure => simp [intOf]; omega
        · have hqe : q = es.length := by omega
          subst hqe
          obtain ⟨w2, rfl⟩ : ∃ w2 : World, w2 = wr := ⟨_, rfl⟩
          have hgl := HG.out.len
          obtain ⟨Ag, cg, hgr, hrg, _, _, _⟩ := own_rd HG.out.row
          rw [hgl] at hgr
          subst hgr
          have HR := Lib.hid hrg
          have HGL := Lib.hid hgl
          clear hrg hgl hk1
          have hk2 := HK.out _ HG.out.chg
          go_wp2_with fail
          go_loopw [8] (fun i wr => ∃ q : Nat, q ≤ es.length ∧ i = .int .i64 q ∧ Hid (w2 = wr)) (fun i _ => es.length - (intOf i).toNat)
          case atStart => exact ⟨0, by omega, rfl, rfl⟩
          case round =>
            obtain ⟨q, hq, rfl, hw⟩ := hrel
            obtain rfl := hw.out
            clear hw
            by_cases hlt : q < es.length
            · obtain ⟨b, o, rfl, hc⟩ := RdV.get (HV.out _ HG.out.chg) (j := q) (by simpa using hlt)
              obtain ⟨hq1, e1, e2, e3⟩ := shape_get HD.out.shape hlt
              have hqg : q < gs.length := by have := HGL.out; omega
              obtain ⟨bg, og, rfl, hcg⟩ := RdV.get HR.out (j := q) (by simpa using hqg)
              obtain ⟨x, hx, hxt⟩ := HG.out.text q gs[q] (List.getElem?_eq_getElem hqg)
              rw [List.getElem?_eq_getElem hq1] at hx
              injection hx with hx
              subst hx
              have hfull := HD.out.full q hlt _ (List.getElem?_eq_getElem hq1)
              have hr1 : Rd w2 es1[q].1 es1[q].2.2 := HG.out.own.rd (List.getElem_mem hq1)
              have hr2 : Rd w2 gs[q].1 gs[q].2.2 := RdV.of_own (HG.out.rows _ (List.getElem_mem hqg))
              have hc0 : w2.cell? ⟨b, o + q, none⟩ = some (.slice es1[q].1 es1[q].2.2.length es1[q].2.1) := by rw [hc, e1, e2, e3]; simp [slOf]
              have hcg0 : w2.cell? ⟨bg, og + q, none⟩ = some (.slice gs[q].1 (es1[q].2.2.length + 2) gs[q].2.1) := by rw [hcg]; simp [slOf, hxt]
              clear hc hcg e1 e2 e3
              have hl9 : es1[q].2.2.length ≤ 140737488355000 := by
                obtain ⟨_, _, e2, _⟩ := shape_get HD.out.shape hlt
                rw [e2]
                exact HLe.out _ (List.getElem_mem hlt)
              rw [hxt] at hr2
              generalize es1[q].2.2 = t at *
              generalize es1[q].1 = ax at *
              generalize es1[q].2.1 = cx at *
              generalize gs[q].1 = ag at *
              generalize gs[q].2.1 = cg' at *
              obtain ⟨nx, hnx⟩ : ∃ n, n = t.length := ⟨_, rfl⟩
              rw [← hnx] at hfull hc0 hcg0 hl9
              have hT : Hid (∀ p, p < nx → ∃ bx ox, ax = some ⟨bx, ox, none⟩ ∧ w2.cell? ⟨bx, ox + p, none⟩ = some (.int .u8 ((q : Int) % 256))) := fun p hp => by
                obtain ⟨bx, ox, e, hc⟩ := hr1.get (j := p) (by omega)
                refine ⟨bx, ox, e, ?_⟩
                rw [hc, ← bv_fb]
                simp [bv, hfull]
              obtain ⟨b2', o2', rfl, hz9⟩ := hr2.get (j := nx) (by simp; omega)
              have hG : Hid (∀ p (hp : p < nx + 2), w2.cell? ⟨b2', o2' + p, none⟩ = some (bv ((t ++ [fb (q + 100), fb (q + 101)])[p]'(by simp; omega)))) := fun p hp => by
                obtain ⟨bx, ox, e, hc⟩ := hr2.get (j := p) (by simp; omega)
                injection e with e; injection e with e1 e2
                rw [e1, e2, hc]; rfl
              have hG1 : Hid (∀ p, p < nx → w2.cell? ⟨b2', o2' + p, none⟩ = some (.int .u8 ((q : Int) % 256))) := fun p hp => by
                rw [hG.out p (by omega), ← bv_fb]
                simp [hfull, hp]
              have hG2 : w2.cell? ⟨b2', o2' + nx, none⟩ = some (.int .u8 (((q : Int) + 100) % 256)) := by
                rw [hG.out nx (by omega)]
                have : bv (fb (q + 100)) = .int .u8 (((q : Int) + 100) % 256) := by rw [bv_fb]; rfl
                rw [← this]
                simp [hnx]
              have hG3 : w2.cell? ⟨b2', o2' + (nx + 1), none⟩ = some (.int .u8 (((q : Int) + 101) % 256)) := by
                rw [hG.out (nx + 1) (by omega)]
                have : bv (fb (q + 101)) = .int .u8 (((q : Int) + 101) % 256) := by rw [bv_fb]; rfl
                rw [← this]
                simp [hnx]
              clear hz9 hr1 hr2 hxt hfull hG hnx
              have hli : (q : Int) < es.length := by omega
              have hq6 : q < 1000 := by omega
              have hb1 : (nx : Int) < ((nx + 2 : Nat) : Int) := by omega
              have hb2 : (nx : Int) + 1 < ((nx + 2 : Nat) : Int) := by omega
              go_wp2_with fail
              go_loopw [10] (fun j wr => ∃ p : Nat, p ≤ nx ∧ j = .int .i64 p ∧ Hid (w2 = wr)) (fun j _ => nx - (intOf j).toNat)
              case atStart => exact ⟨0, by omega, rfl, rfl⟩
              case round =>
                obtain ⟨p, hp, rfl, hw⟩ := hrel
                obtain rfl := hw.out
                clear hw
                by_cases hlt2 : p < nx
                · obtain ⟨bx, ox, rfl, hcx⟩ := hT.out p hlt2
                  have hcy := hG1.out p hlt2
                  have hpi : (p : Int) < nx := by omega
                  have hpj : (p : Int) < ((nx + 2 : Nat) : Int) := by omega
                  go_wp2_with fail
                  go_roundw
                  case rel => exact ⟨p + 1, by omega, by go_num, trivial⟩
                  case measure => simp [intOf]; omega
                · have hpe : p = nx := by omega
                  subst hpe
                  go_wp2_with fail
                  go_roundw
                  case rel => exact ⟨q + 1, by omega, by go_num, trivial⟩
                  case measure => simp [intOf]; omega
            · go_wp2_with fail
              go_ret
              exact ⟨rfl, HG.out.chg⟩

/-- Close: true; the rows' own blocks are written, and what is new, nothing else. -/
theorem book_close (b1 b2 k : Nat) (es : Rows_) (w : World) (h : Bk b1 b2 w k es) (hn : es.length ≤ 400) (hl : ∀ x ∈ es, x.2.2.length ≤ 140737488355000) :
    Calls Try.prog 19 #[.pointer (some ⟨k, 0, none⟩)] w (Closed es w) := by
  obtain ⟨vb, vs, ss, hh, hrow, hss, htx, hne⟩ := h.ex
  have HB := Lib.hid h
  have HH := Lib.hid hh
  have HRow := Lib.hid hrow
  have HL := Lib.hid hl
  have L0 : Hid (b1 ≤ w.heap.size) := Lib.hid (by have := h.le; have := hh.at_.lt; omega)
  clear h hh hrow hss htx hne hl
  go_enter Try.func19, Try.ntmps19
  go_wp2_with (first
    | (go_at_call 24; refine (book_look b1 b2 k es w HB.out (by omega)).mono ?_; rintro e w' ⟨rfl, n, rfl⟩)
    | (go_at_call 25; refine (close_bytes b1 b2 k es vb vs (w.drewN n) ⟨HH.out.at_.drewN n⟩ (own_chg HRow.out ((Chg.refl No w).drewN n) (fun _ _ => id)) (HB.out.own.new ((Chg.refl No w).drewN n)) L0.out hn HL.out).mono ?_; rintro e w1 ⟨rfl, k1⟩; have K1 := Lib.hid k1; clear k1; have H1 : Hid (BookHead w1 k vb vs) := Lib.hid ⟨At.chg (w := w.drewN n) HH.out.at_ K1.out (ent_not HB.out.own HH.out.at_ (by decide))⟩)
    | (go_at_call 26; refine (close_words k vb vs w1 H1.out).mono ?_; rintro e w2 ⟨rfl, rfl⟩)
    | (go_at_call 27; refine (close_ints k vb vs _ H1.out).mono ?_; rintro e w3 ⟨rfl, rfl⟩))
  go_ret
  exact ⟨rfl, (((Chg.refl No w).drewN n).no).tr K1.out⟩
end Go.Proofs.Ytndfgijdcanbaaa
