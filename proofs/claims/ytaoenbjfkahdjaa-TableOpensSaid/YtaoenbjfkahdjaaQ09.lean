/- Joined, as they were built one by one: Book4 BookS Got TabRd. -/
import Derived.Test.YtaoenbjfkahdjaaQ03
import Derived.Test.YtaoenbjfkahdjaaQ07
import Derived.Test.YtaoenbjfkahdjaaQ08
namespace Go.Proofs.Ytaoenbjfkahdjaa
open Go.RowKit
set_option linter.unusedVariables false
set_option maxRecDepth 100000

def Filled (es : Rows_) (q : Nat) : Prop := ∀ p, p < q → ∀ x, es[p]? = some x → x.2.2 = List.replicate x.2.2.length (fb p)
def Half (es : Rows_) (q p : Nat) : Prop := ∀ x, es[q]? = some x → ∀ r, r < p → x.2.2[r]? = some (fb q)
structure Fill1 (b1 : Nat) (es : Rows_) (w wr : World) (q : Nat) (es' : Rows_) : Prop where
  shape : es'.map slOf = es.map slOf
  own : OwnL b1 wr es'
  full : Filled es' q
  chg : Chg (EntB es) w wr

theorem bv_fb (q : Nat) : bv (fb q) = .int .u8 ((q : Int) % 256) := by
  simp [bv, fb, UInt8.toNat_ofNat']
theorem Filled.set {es : Rows_} {q : Nat} (h : Filled es q) (y : Option Addr × Nat × List UInt8) : Filled (es.set q y) q := fun p hp x hx => by
  rw [List.getElem?_set_ne (by omega)] at hx
  exact h p hp x hx
theorem Half.set {es : Rows_} {q p : Nat} (h : Half es q p) (hq : q < es.length) (hp : p < es[q].2.2.length) : Half (es.set q (es[q].1, es[q].2.1, es[q].2.2.set p (fb q))) q (p + 1) := fun x hx r hr => by
  rw [List.getElem?_set_self hq] at hx
  injection hx with hx
  subst hx
  by_cases e : r = p
  · subst e
    rw [List.getElem?_set_self hp]
  · rw [List.getElem?_set_ne (by omega)]
    exact h _ (List.getElem?_eq_getElem hq) r (by omega)
theorem Filled.next {es : Rows_} {q : Nat} (h : Filled es q) {hq : q < es.length} (h2 : Half es q es[q].2.2.length) : Filled es (q + 1) := fun p hp x hx => by
  by_cases e : p = q
  · subst e
    have h3 := h2 x hx
    rw [List.getElem?_eq_getElem hq] at hx
    injection hx with hx
    rw [hx] at h3
    refine List.ext_getElem (by simp) fun r h4 h5 => ?_
    have := h3 r h4
    rw [List.getElem?_eq_getElem h4] at this
    injection this with this
    rw [this]; simp
  · exact h p (by omega) x hx
structure Grow (b1 : Nat) (es : Rows_) (w w1 wr : World) (es1 gs : Rows_) (gr : Value) (q : Nat) : Prop where
  own : OwnL b1 wr es1
  row : wr.ownsRow w.heap.size 32 1 gr gs.length (gs.map slOf)
  len : gs.length = q
  rows : ∀ y ∈ gs, wr.ownsRow b1 5 1 (slOf y) y.2.2.length (y.2.2.map bv)
  text : ∀ (p : Nat) (y : Option Addr × Nat × List UInt8), gs[p]? = some y → ∃ x, es1[p]? = some x ∧ y.2.2 = x.2.2 ++ [fb (p + 100), fb (p + 101)]
  blk : ∀ (p : Nat) (y : Option Addr × Nat × List UInt8), gs[p]? = some y → ∀ g, (slOf y).ownBlock = some g → (∃ x, es1[p]? = some x ∧ (slOf x).ownBlock = some g) ∨ w1.heap.size ≤ g
  chg : Chg (EntB es) w wr
  size : w1.heap.size ≤ wr.heap.size

theorem Grow.now {b1 : Nat} {es : Rows_} {w w1 wr : World} {es1 gs : Rows_} {gr : Value} {q : Nat} (h : Grow b1 es w w1 wr es1 gs gr q) (h1 : OwnL b1 w1 es1) (hq : q < es1.length) (hb : b1 ≤ wr.heap.size)
    {wA w3 wB w4 : World} {v3 v4 : Value} (kA : Chg No wr wA)
    (a1 : Appd b1 5 1 wA (slOf es1[q]) es1[q].2.2.length 1 (es1[q].2.2.map bv ++ [.int .u8 (((q : Int) + 100) % 256)]) v3 w3) (kB : Chg No w3 wB)
    (a2 : Appd b1 5 1 wB v3 (es1[q].2.2.length + 1) 1 (es1[q].2.2.map bv ++ [.int .u8 (((q : Int) + 100) % 256)] ++ [.int .u8 (((q : Int) + 101) % 256)]) v4 w4) :
    OwnL b1 w4 es1 ∧ Chg (fun g => some g = (slOf es1[q]).ownBlock) wr w4 ∧ (∀ g, v4.ownBlock = some g → (slOf es1[q]).ownBlock = some g ∨ wr.heap.size ≤ g) := by
  have e1 : (Value.int .u8 (((q : Int) + 100) % 256)) = bv (fb (q + 100)) := by rw [bv_fb]; rfl
  have e2 : (Value.int .u8 (((q : Int) + 101) % 256)) = bv (fb (q + 101)) := by rw [bv_fb]; rfl
  rw [e1] at a1
  rw [e1, e2] at a2
  exact grow2 h.own hq hb kA a1 kB a2
theorem Grow.step {b1 : Nat} {es : Rows_} {w w1 wr : World} {es1 gs : Rows_} {gr : Value} {q : Nat} (h : Grow b1 es w w1 wr es1 gs gr q) (h1 : OwnL b1 w1 es1) (shape : es1.map slOf = es.map slOf) (hq : q < es1.length)
    {w4 wC w5 : World} {A4 : Option Addr} {c4 : Nat} {v5 : Value}
    (G2 : OwnL b1 w4 es1 ∧ Chg (fun g => some g = (slOf es1[q]).ownBlock) wr w4 ∧ (∀ g, (Value.slice A4 (es1[q].2.2.length + 1 + 1) c4).ownBlock = some g → (slOf es1[q]).ownBlock = some g ∨ wr.heap.size ≤ g))
    (own4 : w4.ownsRow b1 5 1 (.slice A4 (es1[q].2.2.length + 1 + 1) c4) (es1[q].2.2.length + 1 + 1) (es1[q].2.2.map bv ++ [.int .u8 (((q : Int) + 100) % 256)] ++ [.int .u8 (((q : Int) + 101) % 256)]))
    (kC : Chg No w4 wC) (own3 : wC.ownsRow w.heap.size 32 1 gr gs.length (gs.map slOf))
    (a3 : Appd w.heap.size 32 1 wC gr gs.length 1 (gs.map slOf ++ [.slice A4 (es1[q].2.2.length + 1 + 1) c4]) v5 w5) :
    Grow b1 es w w1 w5 es1 (gs ++ [(A4, c4, es1[q].2.2 ++ [fb (q + 100), fb (q + 101)])]) v5 (q + 1) := by
  have e1 : (Value.int .u8 (((q : Int) + 100) % 256)) = bv (fb (q + 100)) := by rw [bv_fb]; rfl
  have e2 : (Value.int .u8 (((q : Int) + 101) % 256)) = bv (fb (q + 101)) := by rw [bv_fb]; rfl
  rw [e1, e2] at own4
  have hn : ∀ p y, (gs ++ [(A4, c4, es1[q].2.2 ++ [fb (q + 100), fb (q + 101)])])[p]? = some y → gs[p]? = some y ∨ p = q ∧ y = (A4, c4, es1[q].2.2 ++ [fb (q + 100), fb (q + 101)]) := fun p y hy => by
    by_cases hp : p < gs.length
    · rw [List.getElem?_append_left hp] at hy
      exact .inl hy
    · rw [List.getElem?_append_right (by omega)] at hy
      have h0 : p - gs.length = 0 := by
        rcases Nat.eq_zero_or_pos (p - gs.length) with e | e
        · exact e
        · rw [List.getElem?_eq_none (by simp; omega)] at hy; cases hy
      rw [h0] at hy
      refine .inr ⟨by have := h.len; omega, ?_⟩
      simpa using hy.symm
  refine ⟨(G2.1.new kC).step a3.chg (own_at own3 (by decide)), ?_, by simp [h.len], fun y hy => ?_, fun p y hy => ?_, fun p y hy g hg => ?_, ?_, ?_⟩
  · have := a3.own
    simpa [slOf, Nat.add_assoc] using this
  · obtain ⟨p, hp, he⟩ := List.mem_iff_getElem.1 hy
    have hy? := List.getElem?_eq_getElem hp
    rw [he] at hy?
    refine own_step (own_chg (S := No) ?_ kC fun _ _ => id) a3.chg (own_at own3 (by decide))
    rcases hn p y hy? with h5 | ⟨rfl, rfl⟩
    · refine own_chg (h.rows y (List.mem_of_getElem? h5)) G2.2.1 fun g hg hg' => ?_
      rcases h.blk p y h5 g hg with ⟨x, hx, hxg⟩ | h6
      · have hpq : p ≠ q := by
          have := (List.getElem?_eq_some_iff.1 h5).1
          have := h.len
          omega
        obtain ⟨hpl, rfl⟩ := List.getElem?_eq_some_iff.1 hx
        have ha := List.pairwise_iff_getElem.1 h.own.apart
        rcases Nat.lt_or_gt_of_ne hpq with hlt | hlt
        · exact ha p q hpl hq hlt g hxg hg'.symm
        · exact ha q p hq hpl hlt g hg'.symm hxg
      · have := (h1.own es1[q] (List.getElem_mem hq)).lt g hg'.symm
        omega
    · have : (es1[p].2.2 ++ [fb (p + 100), fb (p + 101)]).length = es1[p].2.2.length + 1 + 1 := by simp
      simp only [slOf, this]
      simpa using own4
  · rcases hn p y hy with h5 | ⟨rfl, rfl⟩
    · exact h.text p y h5
    · exact ⟨_, List.getElem?_eq_getElem hq, rfl⟩
  · rcases hn p y hy with h5 | ⟨rfl, rfl⟩
    · exact h.blk p y h5 g hg
    · rcases G2.2.2 g (by simpa [slOf, Value.ownBlock] using hg) with h6 | h6
      · exact .inl ⟨_, List.getElem?_eq_getElem hq, h6⟩
      · exact .inr (Nat.le_trans h.size h6)
  · refine ((h.chg.trans G2.2.1 fun i _ hi => ent_shape shape ⟨_, List.getElem_mem hq, hi.symm⟩).new kC).trans a3.chg fun i hi e => ?_
    have := (own3.lt i e.symm).1
    omega
  · exact Nat.le_trans h.size (Nat.le_trans G2.2.1.size (Nat.le_trans kC.size a3.chg.size))

def Closed (es : Rows_) (w : World) (e : Ending) (w' : World) : Prop := e = .returned (.bool true) ∧ Chg (EntB es) w w'
set_option maxRecDepth 100000 in
set_option maxHeartbeats 8000000 in
theorem close_bytes (b1 b2 k : Nat) (es : Rows_) (vb vs : Value) (w : World) (hh : BookHead w k vb vs) (hrow : w.ownsRow b2 32 1 vb es.length (es.map slOf)) (ho : OwnL b1 w es) (hb : b1 ≤ w.heap.size)
    (hn : es.length ≤ 400) (hl : ∀ x ∈ es, x.2.2.length ≤ 140737488355000) : Calls Try.prog 80 #[.pointer (some ⟨k, 0, none⟩)] w (Closed es w) := by
  obtain ⟨i0, hi, hz0, hz1, hz2⟩ := info_parts info_sl
  obtain ⟨i8, hi8, hy0, hy1, hy2⟩ := info_parts info_u8
  obtain ⟨Ab, cb, rfl, _, _, _, _⟩ := own_rd hrow
  have HH := Lib.hid hh
  have HRow := Lib.hid hrow
  have HO := Lib.hid ho
  have HLe := Lib.hid hl
  clear hh hrow ho hl
  have HK : Hid (∀ wr, Chg (EntB es) w wr → wr.cell? ⟨k, 0, none⟩ = some (.slice Ab es.length cb)) := fun wr kk => by
    rw [(HH.out.at_.chg kk (ent_not HO.out HH.out.at_ (by decide))).cell]; rfl
  have HV : Hid (∀ wr, Chg (EntB es) w wr → RdV wr Ab (es.map slOf)) := fun wr kk => RdV.of_own (own_step HRow.out kk (ent_at HO.out (by decide)))
  go_enter Try.func80, Try.ntmps80
  go_wp2
  go_loopw [3] (fun i wr => ∃ q : Nat, q ≤ es.length ∧ i = .int .i64 q ∧ ∃ es', Hid (Fill1 b1 es w wr q es')) (fun i _ => es.length - (intOf i).toNat)
  case atStart => exact ⟨0, by omega, rfl, es, rfl, HO.out, fun p hp => by omega, Chg.refl _ _⟩
  case round =>
    obtain ⟨q, hq, rfl, es1, HD⟩ := hrel
    have hk0 := HK.out _ HD.out.chg
    by_cases hlt : q < es.length
    · obtain ⟨b, o, rfl, hc⟩ := RdV.get (HV.out _ HD.out.chg) (j := q) (by simpa using hlt)
      have hc0 : wr.cell? ⟨b, o + q, none⟩ = some (.slice es[q].1 es[q].2.2.length es[q].2.1) := by rw [hc]; simp [slOf]
      clear hc
      have HC : Hid (∀ wx, Chg (EntB es) w wx → wx.cell? ⟨b, o + q, none⟩ = some (.slice es[q].1 es[q].2.2.length es[q].2.1)) := fun wx kk => by
        obtain ⟨b', o', e, hc⟩ := RdV.get (HV.out _ kk) (j := q) (by simpa using hlt)
        injection e with e; injection e with e1 e2; subst e1; subst e2
        rw [hc]; simp [slOf]
      have hli : (q : Int) < es.length := by omega
      have hq6 : q < 1000 := by omega
      have hX : Hid (es[q].2.2.length ≤ 140737488355000) := HLe.out _ (List.getElem_mem hlt)
      have HS : Hid (∀ es2 : Rows_, es2.map slOf = es.map slOf → ∃ hq' : q < es2.length, es2[q].1 = es[q].1 ∧ es2[q].2.2.length = es[q].2.2.length ∧ es2[q].2.1 = es[q].2.1) := fun es2 h2 => shape_get h2 hlt
      generalize es[q].1 = ax at *
      generalize es[q].2.2.length = nx at *
      generalize es[q].2.1 = cx at *
      have hnx : nx ≤ 140737488355000 := hX.out
      go_wp2_with fail
      obtain ⟨wb, rfl⟩ : ∃ wb : World, wb = wr := ⟨_, rfl⟩
      go_loopw [4] (fun j wx => ∃ p : Nat, p ≤ nx ∧ j = .int .i64 p ∧ ∃ es2, Hid (Fill1 b1 es w wx q es2 ∧ Half es2 q p)) (fun j _ => nx - (intOf j).toNat)
      case atStart => exact ⟨0, by omega, rfl, es1, HD.out, fun x _ r hr => by omega⟩
      case round =>
        obtain ⟨p, hp, rfl, es2, HD2⟩ := hrel
        have hk0' := HK.out _ HD2.out.1.chg
        have hc' := HC.out _ HD2.out.1.chg
        by_cases hlt2 : p < nx
        · obtain ⟨hq2, e1, e2, e3⟩ := HS.out es2 HD2.out.1.shape
          obtain ⟨g, hg, hcell0, hfr, hput⟩ := HD2.out.1.own.put hq2 (j := p) (by omega)
          rw [e1] at hg
          subst hg
          obtain ⟨c0, hcell⟩ : ∃ c : UInt8, wr.cell? ⟨g, p, none⟩ = some (.int .u8 (c.toNat : Int)) := ⟨_, hcell0⟩
          clear hcell0
          have HP := Lib.hid (hput (fb q))
          clear hput
          have hpi : (p : Int) < nx := by omega
          have HE : Hid (es2[q].1 = some ⟨g, 0, none⟩ ∧ es2[q].2.2.length = nx ∧ es2[q].2.1 = cx) := ⟨e1, e2, e3⟩
          clear e1 e2 e3
          go_wp2_with fail
          go_roundw
          case rel =>
            refine ⟨p + 1, by omega, by go_num, es2.set q (es2[q].1, es2[q].2.1, es2[q].2.2.set p (fb q)), ?_⟩
            rw [← bv_fb]
            exact ⟨⟨(shape_set hq2 _ (by simp)).trans HD2.out.1.shape, HP.out.1, HD2.out.1.full.set _, HD2.out.1.chg.trans HP.out.2 (fun i _ hi => ent_shape HD2.out.1.shape hi)⟩, HD2.out.2.set hq2 (by have := HE.out.2.1; omega)⟩
          case measure => simp [intOf]; omega
        · have hpe : p = nx := by omega
          subst hpe
          go_wp2_with fail
          go_roundw
          case rel =>
            obtain ⟨hq2, e1, e2, e3⟩ := HS.out es2 HD2.out.1.shape
            exact ⟨q + 1, by omega, by go_num, es2, HD2.out.1.shape, HD2.out.1.own, HD2.out.1.full.next (by rw [e2]; exact HD2.out.2), HD2.out.1.chg⟩
          case measure => simp [intOf]; omega
    · have hqe : q = es.length := by omega
      subst hqe
      obtain ⟨w1, rfl⟩ : ∃ w1 : World, w1 = wr := ⟨_, rfl⟩
      go_wp2_with fail
      go_loopw [5, 6] (fun gr i wr => ∃ q : Nat, q ≤ es.length ∧ i = .int .i64 q ∧ ∃ gs, Hid (Grow b1 es w w1 wr es1 gs gr q)) (fun _ i _ => es.length - (intOf i).toNat)
      case atStart => exact ⟨0, by omega, rfl, [], HD.out.own, World.ownsRow_nil _ _ _ _, rfl, by simp, by simp, by simp, HD.out.chg, Nat.le_refl _⟩
      case round =>
        obtain ⟨q, hq, rfl, gs, HG⟩ := hrel
        have hk1 := HK.out _ HG.out.chg
        clear hk0
        by_cases hlt : q < es.length
        · obtain ⟨b, o, rfl, hc⟩ := RdV.get (HV.out _ HG.out.chg) (j := q) (by simpa using hlt)
          obtain ⟨hq1, e1, e2, e3⟩ := shape_get HD.out.shape hlt
          have hc0 : wr.cell? ⟨b, o + q, none⟩ = some (.slice es1[q].1 es1[q].2.2.length es1[q].2.1) := by rw [hc, e1, e2, e3]; simp [slOf]
          clear hc
          have hli : (q : Int) < es.length := by omega
          have hq6 : q < 1000 := by omega
          have HX : Hid (es1[q].2.2.length ≤ 140737488355000) := by have := HLe.out _ (List.getElem_mem hlt); rw [e2]; exact this
          clear e1 e2 e3
          have HOx := Lib.hid (HG.out.own.own es1[q] (List.getElem_mem hq1))
          have K1 := Lib.hid ((Chg.refl No wr).alloc (.cells #[.int .u8 (((q : Int) + 100) % 256)] 5))
          have O1 := Lib.hid (own_chg HOx.out K1.out (fun _ _ => id))
          have LB : Hid (b1 ≤ wr.heap.size) := Nat.le_trans hb HG.out.chg.size
          go_wp2_with (first
            | (at_builtin; refine wpList_app rfl (.tmp 58) (.tmp 62) 32 rfl b1 5 i8 _ 1 1 Try.underlying32 hi8 hy0 hy1 hy2 rfl (by decide) (.slice es1[q].1 es1[q].2.2.length es1[q].2.1) es1[q].2.2.length (es1[q].2.2.map bv) rfl O1.out (some ⟨wr.heap.size, 0, none⟩) 1 1 [.int .u8 (((q : Int) + 100) % 256)] rfl (RdV.lit wr #[.int .u8 (((q : Int) + 100) % 256)] 5 (0, 0)) rfl (by simp [Value.oneCell']) (by have := HX.out; unfold maxLen; omega) (by have := HX.out; omega) (Nat.le_trans LB.out K1.out.size) ?_; intro v3 w3 hap; have HA := Lib.hid hap; clear hap; obtain ⟨A3, c3, hv3, _⟩ := own_rd HA.out.own; subst hv3;
                           have K2 := Lib.hid ((Chg.refl No w3).alloc (.cells #[.int .u8 (((q : Int) + 101) % 256)] 5)); have O2 := Lib.hid (own_chg HA.out.own K2.out (fun _ _ => id)); have L3 : Hid (b1 ≤ w3.heap.size) := Lib.hid (Nat.le_trans LB.out (Nat.le_trans K1.out.size HA.out.chg.size)))
            | (at_builtin; refine wpList_app rfl (.tmp 65) (.tmp 69) 32 rfl b1 5 i8 _ 1 1 Try.underlying32 hi8 hy0 hy1 hy2 rfl (by decide) (.slice A3 (es1[q].2.2.length + 1) c3) (es1[q].2.2.length + 1) (es1[q].2.2.map bv ++ [.int .u8 (((q : Int) + 100) % 256)]) rfl O2.out (some ⟨w3.heap.size, 0, none⟩) 1 1 [.int .u8 (((q : Int) + 101) % 256)] rfl (RdV.lit w3 #[.int .u8 (((q : Int) + 101) % 256)] 5 (0, 0)) rfl (by simp [Value.oneCell']) (by have := HX.out; unfold maxLen; omega) (by have := HX.out; omega) (Nat.le_trans L3.out K2.out.size) ?_; intro v4 w4 hap; have HA2 := Lib.hid hap; clear hap; obtain ⟨A4, c4, hv4, _⟩ := own_rd HA2.out.own; subst hv4;
                           have G2 := Lib.hid (HG.out.now HD.out.own hq1 LB.out K1.out HA.out K2.out HA2.out); have K3 := Lib.hid ((Chg.refl No w4).alloc (.cells #[.slice A4 (es1[q].2.2.length + 1 + 1) c4] 32)); have O3 := Lib.hid (own_chg (own_step HG.out.row G2.out.2.1 (own_at HOx.out (by decide))) K3.out (fun _ _ => id)); have L4 : Hid (w.heap.size ≤ (w4.alloc (.cells #[.slice A4 (es1[q].2.2.length + 1 + 1) c4] 32)).heap.size) := Lib.hid (Nat.le_trans HG.out.chg.size (Nat.le_trans G2.out.2.1.size K3.out.size)); have L5 : Hid (gs.length ≤ 400) := Lib.hid (by have := HG.out.len; omega))
            | (at_builtin; refine wpList_app rfl (.tmp 64) (.tmp 71) 24 rfl w.heap.size 32 i0 _ 1 24 Try.underlying24 hi hz0 hz1 hz2 rfl (by decide) u5 gs.length (gs.map slOf) rfl O3.out (some ⟨w4.heap.size, 0, none⟩) 1 1 [.slice A4 (es1[q].2.2.length + 1 + 1) c4] rfl (RdV.lit w4 #[.slice A4 (es1[q].2.2.length + 1 + 1) c4] 32 (0, 0)) rfl (by simp [Value.oneCell']) (by have := L5.out; unfold maxLen; omega) (by have := L5.out; omega) L4.out ?_; intro v5 w5 hap; have HA3 := Lib.hid hap; clear hap))
          go_roundw
          case rel => exact ⟨q + 1, by omega, by go_num, _, HG.out.step HD.out.own HD.out.shape hq1 G2.out HA2.out.own K3.out O3.out HA3.out⟩
          case measure => simp [intOf]; omega
        · have hqe : q = es.length := by omega
          subst hqe
          obtain ⟨w2, rfl⟩ : ∃ w2 : World, w2 = wr := ⟨_, rfl⟩
          have hgl := HG.out.len
          obtain ⟨Ag, cg, hgr, hrg, _, _, _⟩ := own_rd HG.out.row
          rw [hgl] at hgr
          subst hgr
          have HR := Lib.hid hrg
          have HGL := Lib.hid hgl
          clear hrg hgl hk1
          have hk2 := HK.out _ HG.out.chg
          go_wp2_with fail
          go_loopw [8] (fun i wr => ∃ q : Nat, q ≤ es.length ∧ i = .int .i64 q ∧ Hid (w2 = wr)) (fun i _ => es.length - (intOf i).toNat)
          case atStart => exact ⟨0, by omega, rfl, rfl⟩
          case round =>
            obtain ⟨q, hq, rfl, hw⟩ := hrel
            obtain rfl := hw.out
            clear hw
            by_cases hlt : q < es.length
            · obtain ⟨b, o, rfl, hc⟩ := RdV.get (HV.out _ HG.out.chg) (j := q) (by simpa using hlt)
              obtain ⟨hq1, e1, e2, e3⟩ := shape_get HD.out.shape hlt
              have hqg : q < gs.length := by have := HGL.out; omega
              obtain ⟨bg, og, rfl, hcg⟩ := RdV.get HR.out (j := q) (by simpa using hqg)
              obtain ⟨x, hx, hxt⟩ := HG.out.text q gs[q] (List.getElem?_eq_getElem hqg)
              rw [List.getElem?_eq_getElem hq1] at hx
              injection hx with hx
              subst hx
              have hfull := HD.out.full q hlt _ (List.getElem?_eq_getElem hq1)
              have hr1 : Rd w2 es1[q].1 es1[q].2.2 := HG.out.own.rd (List.getElem_mem hq1)
              have hr2 : Rd w2 gs[q].1 gs[q].2.2 := RdV.of_own (HG.out.rows _ (List.getElem_mem hqg))
              have hc0 : w2.cell? ⟨b, o + q, none⟩ = some (.slice es1[q].1 es1[q].2.2.length es1[q].2.1) := by rw [hc, e1, e2, e3]; simp [slOf]
              have hcg0 : w2.cell? ⟨bg, og + q, none⟩ = some (.slice gs[q].1 (es1[q].2.2.length + 2) gs[q].2.1) := by rw [hcg]; simp [slOf, hxt]
              clear hc hcg e1 e2 e3
              have hl9 : es1[q].2.2.length ≤ 140737488355000 := by
                obtain ⟨_, _, e2, _⟩ := shape_get HD.out.shape hlt
                rw [e2]
                exact HLe.out _ (List.getElem_mem hlt)
              rw [hxt] at hr2
              generalize es1[q].2.2 = t at *
              generalize es1[q].1 = ax at *
              generalize es1[q].2.1 = cx at *
              generalize gs[q].1 = ag at *
              generalize gs[q].2.1 = cg' at *
              obtain ⟨nx, hnx⟩ : ∃ n, n = t.length := ⟨_, rfl⟩
              rw [← hnx] at hfull hc0 hcg0 hl9
              have hT : Hid (∀ p, p < nx → ∃ bx ox, ax = some ⟨bx, ox, none⟩ ∧ w2.cell? ⟨bx, ox + p, none⟩ = some (.int .u8 ((q : Int) % 256))) := fun p hp => by
                obtain ⟨bx, ox, e, hc⟩ := hr1.get (j := p) (by omega)
                refine ⟨bx, ox, e, ?_⟩
                rw [hc, ← bv_fb]
                simp [bv, hfull]
              obtain ⟨b2', o2', rfl, hz9⟩ := hr2.get (j := nx) (by simp; omega)
              have hG : Hid (∀ p (hp : p < nx + 2), w2.cell? ⟨b2', o2' + p, none⟩ = some (bv ((t ++ [fb (q + 100), fb (q + 101)])[p]'(by simp; omega)))) := fun p hp => by
                obtain ⟨bx, ox, e, hc⟩ := hr2.get (j := p) (by simp; omega)
                injection e with e; injection e with e1 e2
                rw [e1, e2, hc]; rfl
              have hG1 : Hid (∀ p, p < nx → w2.cell? ⟨b2', o2' + p, none⟩ = some (.int .u8 ((q : Int) % 256))) := fun p hp => by
                rw [hG.out p (by omega), ← bv_fb]
                simp [hfull, hp]
              have hG2 : w2.cell? ⟨b2', o2' + nx, none⟩ = some (.int .u8 (((q : Int) + 100) % 256)) := by
                rw [hG.out nx (by omega)]
                have : bv (fb (q + 100)) = .int .u8 (((q : Int) + 100) % 256) := by rw [bv_fb]; rfl
                rw [← this]
                simp [hnx]
              have hG3 : w2.cell? ⟨b2', o2' + (nx + 1), none⟩ = some (.int .u8 (((q : Int) + 101) % 256)) := by
                rw [hG.out (nx + 1) (by omega)]
                have : bv (fb (q + 101)) = .int .u8 (((q : Int) + 101) % 256) := by rw [bv_fb]; rfl
                rw [← this]
                simp [hnx]
              clear hz9 hr1 hr2 hxt hfull hG hnx
              have hli : (q : Int) < es.length := by omega
              have hq6 : q < 1000 := by omega
              have hb1 : (nx : Int) < ((nx + 2 : Nat) : Int) := by omega
              have hb2 : (nx : Int) + 1 < ((nx + 2 : Nat) : Int) := by omega
              go_wp2_with fail
              go_loopw [10] (fun j wr => ∃ p : Nat, p ≤ nx ∧ j = .int .i64 p ∧ Hid (w2 = wr)) (fun j _ => nx - (intOf j).toNat)
              case atStart => exact ⟨0, by omega, rfl, rfl⟩
              case round =>
                obtain ⟨p, hp, rfl, hw⟩ := hrel
                obtain rfl := hw.out
                clear hw
                by_cases hlt2 : p < nx
                · obtain ⟨bx, ox, rfl, hcx⟩ := hT.out p hlt2
                  have hcy := hG1.out p hlt2
                  have hpi : (p : Int) < nx := by omega
                  have hpj : (p : Int) < ((nx + 2 : Nat) : Int) := by omega
                  go_wp2_with fail
                  go_roundw
                  case rel => exact ⟨p + 1, by omega, by go_num, trivial⟩
                  case measure => simp [intOf]; omega
                · have hpe : p = nx := by omega
                  subst hpe
                  go_wp2_with fail
                  go_roundw
                  case rel => exact ⟨q + 1, by omega, by go_num, trivial⟩
                  case measure => simp [intOf]; omega
            · go_wp2_with fail
              go_ret
              exact ⟨rfl, HG.out.chg⟩

/-- Close: true; the rows' own blocks are written, and what is new, nothing else. -/
theorem book_close (b1 b2 k : Nat) (es : Rows_) (w : World) (h : Bk b1 b2 w k es) (hn : es.length ≤ 400) (hl : ∀ x ∈ es, x.2.2.length ≤ 140737488355000) :
    Calls Try.prog 29 #[.pointer (some ⟨k, 0, none⟩)] w (Closed es w) := by
  obtain ⟨vb, vs, ss, hh, hrow, hss, htx, hne⟩ := h.ex
  have HB := Lib.hid h
  have HH := Lib.hid hh
  have HRow := Lib.hid hrow
  have HL := Lib.hid hl
  have L0 : Hid (b1 ≤ w.heap.size) := Lib.hid (by have := h.le; have := hh.at_.lt; omega)
  clear h hh hrow hss htx hne hl
  go_enter Try.func29, Try.ntmps29
  go_wp2_with (first
    | (go_at_call 79; refine (book_look b1 b2 k es w HB.out (by omega)).mono ?_; rintro e w' ⟨rfl, n, rfl⟩)
    | (go_at_call 80; refine (close_bytes b1 b2 k es vb vs (w.drewN n) ⟨HH.out.at_.drewN n⟩ (own_chg HRow.out ((Chg.refl No w).drewN n) (fun _ _ => id)) (HB.out.own.new ((Chg.refl No w).drewN n)) L0.out hn HL.out).mono ?_; rintro e w1 ⟨rfl, k1⟩; have K1 := Lib.hid k1; clear k1; have H1 : Hid (BookHead w1 k vb vs) := Lib.hid ⟨At.chg (w := w.drewN n) HH.out.at_ K1.out (ent_not HB.out.own HH.out.at_ (by decide))⟩)
    | (go_at_call 81; refine (close_words k vb vs w1 H1.out).mono ?_; rintro e w2 ⟨rfl, rfl⟩)
    | (go_at_call 82; refine (close_ints k vb vs _ H1.out).mono ?_; rintro e w3 ⟨rfl, rfl⟩))
  go_ret
  exact ⟨rfl, (((Chg.refl No w).drewN n).no).tr K1.out⟩
end Go.Proofs.Ytaoenbjfkahdjaa
namespace Go.Proofs.Ytaoenbjfkahdjaa
open Go.RowKit
set_option linter.unusedVariables false
set_option maxRecDepth 100000

def OwnR : Rows_ → SP
  | [] => Emp
  | x :: ks => Row 5 1 (slOf x) x.2.2.length (x.2.2.map bv) * OwnR ks
theorem ownR_snoc (x : Option Addr × Nat × List UInt8) : ∀ ks : Rows_, OwnR (ks ++ [x]) = Row 5 1 (slOf x) x.2.2.length (x.2.2.map bv) * OwnR ks
  | [] => rfl
  | y :: ks => by
    show Row _ _ _ _ _ * OwnR (ks ++ [x]) = _
    rw [ownR_snoc x ks]
    show _ = Row _ _ _ _ _ * (Row _ _ _ _ _ * OwnR ks)
    ac_rfl
theorem row_block {e : TypeId} {size n : Nat} {v : Value} {xs : List Value} {h : Hp} (hr : Row e size v n xs h) {g : Nat} (hg : v.ownBlock = some g) : ∃ o, h g = some (false, o) := by
  rcases hr.2 with ⟨rfl, _⟩ | ⟨g', cap, cur, rfl, _, _, _, _, hp⟩
  · simp [Value.ownBlock] at hg
  · simp [Value.ownBlock] at hg
    subst hg
    unfold Pt Ow at hp
    exact ⟨.cells cur e (0, 0), by rw [hp]; unfold one1; simp⟩
theorem ownR_block : ∀ {ks : Rows_} {h : Hp}, OwnR ks h → ∀ x ∈ ks, ∀ g, (slOf x).ownBlock = some g → ∃ o, h g = some (false, o)
  | [], _, _, x, hx, _, _ => by simp at hx
  | y :: ks, h, hh, x, hx, g, hg => by
    obtain ⟨a, b, h1, rfl, h3, h4⟩ := hh
    rcases List.mem_cons.1 hx with rfl | hx
    · obtain ⟨o, ho⟩ := row_block h3 hg
      exact ⟨o, by unfold Hp.un; rw [ho]; rfl⟩
    · obtain ⟨o, ho⟩ := ownR_block h4 x hx g hg
      refine ⟨o, ?_⟩
      unfold Hp.un
      rcases h1 g with q | q | ⟨o', q, q'⟩
      · rw [q]; exact ho
      · rw [ho] at q; cases q
      · rw [ho] at q'; injection q' with q'; injection q' with q' _; cases q'
section
variable {w0 w w' : World} {F : SP} {ks : Rows_}
theorem ownR_ownL : ∀ {ks : Rows_} {F : SP}, Sat w0 (OwnR ks * F) w → OwnL w0.heap.size w ks
  | [], _, _ => OwnL.nil _ _
  | x :: ks, F, h => by
    have h1 : Sat w0 (Row 5 1 (slOf x) x.2.2.length (x.2.2.map bv) * (OwnR ks * F)) w := h.of (star_assoc _ _ _)
    have ih := ownR_ownL h1.right
    refine ⟨fun y hy => ?_, List.pairwise_cons.2 ⟨fun y hy g hg hg' => ?_, ih.apart⟩⟩
    · rcases List.mem_cons.1 hy with rfl | hy
      · exact h1.row_own
      · exact ih.own y hy
    · obtain ⟨c, z, z1, a, f, z2, rfl, z4, b, f', z5, rfl, z6, z7⟩ := h1
      obtain ⟨o, ho⟩ := row_block z4 hg
      obtain ⟨o', ho'⟩ := ownR_block z6 y hy g hg'
      have e : (b.un f') g = some (false, o') := by unfold Hp.un; rw [ho']; rfl
      rcases z2 g with q | q | ⟨o'', q, q'⟩
      · rw [ho] at q; cases q
      · rw [e] at q; cases q
      · rw [ho] at q; injection q with q; injection q with q _; cases q
/-- What the answers' own blocks turn into is let go. -/
theorem ownR_lose (h : Sat w0 (OwnR ks * F) w) (k : Chg (EntB ks) w w') : Sat w0 F w' := by
  have hown := ownR_ownL h
  obtain ⟨c, z, z1, a, f, z2, rfl, z4, z5⟩ := h
  refine ⟨c.own k (fun i hi => ?_), f, fun q y hy => ?_, z5⟩
  · obtain ⟨x, hx, hg⟩ := hi
    exact ((hown.own x hx).lt i hg).1
  · have hz : (a.un f) q = some y := by
      unfold Hp.un
      rcases z2 q with e | e | ⟨o, e, e'⟩
      · rw [e]; exact hy
      · rw [hy] at e; cases e
      · rw [e]; rw [hy] at e'; injection e' with e'; subst e'; rfl
    have h1 := z1 q y hz
    refine ⟨?_, h1.2⟩
    rw [k.block q (lt_of_block h1.1) (fun hq => ?_)]
    · exact h1.1
    · obtain ⟨x, hx, hg⟩ := hq
      obtain ⟨o, ho⟩ := ownR_block z4 x hx q hg
      rcases z2 q with e | e | ⟨o', e, e'⟩
      · rw [ho] at e; cases e
      · rw [hy] at e; cases e
      · rw [ho] at e; injection e with e; injection e with e _; cases e
end
/-- The Book: its block, its two lists, the answers and their twins. -/
def BookC (k : Nat) (vb vs : Value) (es ss : Rows_) : SP :=
  Pt k 57 #[vb, vs, .slice none 0 0, .slice none 0 0, .slice none 0 0, .slice none 0 0] * (Row 32 1 vb es.length (es.map slOf) * (Row 32 1 vs ss.length (ss.map slOf) * (OwnR es * OwnR ss)))
def BookP (k : Nat) (es : Rows_) : SP := fun h => ∃ vb vs ss, txt ss = txt es ∧ BookC k vb vs es ss h
section
variable {w0 w : World} {F : SP} {k : Nat} {es : Rows_}
theorem Sat.bookP (h : Sat w0 (BookP k es * F) w) : ∃ vb vs ss, txt ss = txt es ∧ Sat w0 (BookC k vb vs es ss * F) w := by
  obtain ⟨c, x, h1, a, f, h2, h3, ⟨vb, vs, ss, ht, h4⟩, h5⟩ := h
  exact ⟨vb, vs, ss, ht, c, x, h1, a, f, h2, h3, h4, h5⟩
theorem Sat.bookI {vb vs : Value} {ss : Rows_} (ht : txt ss = txt es) (h : Sat w0 (BookC k vb vs es ss * F) w) : Sat w0 (BookP k es * F) w := h.mono fun y ⟨a, f, h2, h3, h5, h6⟩ => ⟨a, f, h2, h3, ⟨vb, vs, ss, ht, h5⟩, h6⟩
theorem book_d (k : Nat) (vb vs : Value) (es ss : Rows_) (F : SP) : BookC k vb vs es ss * F = Pt k 57 #[vb, vs, .slice none 0 0, .slice none 0 0, .slice none 0 0, .slice none 0 0] * (Row 32 1 vb es.length (es.map slOf) * (Row 32 1 vs ss.length (ss.map slOf) * (OwnR es * (OwnR ss * F)))) := by
  unfold BookC; ac_rfl
end
theorem row_apart {w0 w : World} {F : SP} {e e' : TypeId} {s s' n n' : Nat} {v v' : Value} {xs xs' : List Value} (h : Sat w0 (Row e s v n xs * (Row e' s' v' n' xs' * F)) w) : ∀ g, v.ownBlock = some g → v'.ownBlock ≠ some g := fun g hg hg' => by
  obtain ⟨c, z, z1, a, f, z2, rfl, z4, b, f', z5, rfl, z6, z7⟩ := h
  obtain ⟨o, ho⟩ := row_block z4 hg
  obtain ⟨o', ho'⟩ := row_block z6 hg'
  have e1 : (b.un f') g = some (false, o') := by unfold Hp.un; rw [ho']; rfl
  rcases z2 g with q | q | ⟨o'', q, q'⟩
  · rw [ho] at q; cases q
  · rw [e1] at q; cases q
  · rw [ho] at q; injection q with q; injection q with q _; cases q
theorem bookS_close (k : Nat) (es : Rows_) (w0 w : World) (F : SP) (h : Sat w0 (BookP k es * F) w) (hn : es.length ≤ 400) (hl : ∀ x ∈ es, x.2.2.length ≤ 140737488355000) :
    Calls Try.prog 29 #[.pointer (some ⟨k, 0, none⟩)] w fun e w' => e = .returned (.bool true) ∧ Sat w0 F w' := by
  obtain ⟨vb, vs, ss, ht, h1⟩ := h.bookP
  have h2 := h1.of (book_d ..)
  have hb := Sat.base (h := h2)
  have hbk : Bk w0.heap.size w0.heap.size w k es := ⟨⟨Nat.le_refl _, hb⟩, ⟨vb, vs, ss, ⟨h2.at⟩, h2.up2.row_own, ⟨h2.up3.row_own, ownR_ownL h2.up5⟩, ht, row_apart (h2.right)⟩, ownR_ownL h2.up4⟩
  refine (book_close w0.heap.size w0.heap.size k es w hbk hn hl).mono ?_
  rintro e w' ⟨rfl, kk⟩
  refine ⟨rfl, ?_⟩
  have h3 := ownR_lose h2.up4 kk
  exact h3.right.right.right.right
end Go.Proofs.Ytaoenbjfkahdjaa
namespace Go.Proofs.Ytaoenbjfkahdjaa
open Go.RowKit
set_option linter.unusedVariables false
set_option maxRecDepth 100000

theorem Sat.gather {w0 w w' : World} {A F : SP} (h : Sat w0 F w) (k : Chg No w w') (a : Hp) (hA : A a) (ha : ∀ i x, a i = some x → w'.heap[i]? = some x.2 ∧ w.heap.size ≤ i) : Sat w0 (A * F) w' := by
  obtain ⟨f, h1, hf⟩ := h.hp
  have hs := h.size
  refine ⟨h.chg.tr k, a.un f, fun i x hx => ?_, a, f, fun i => ?_, rfl, hA, hf⟩
  · unfold Hp.un jn at hx
    cases hq : a i with
    | some y =>
      rw [hq] at hx
      injection hx with hx
      subst hx
      have h2 := ha i y hq
      exact ⟨h2.1, fun _ => Nat.le_trans hs h2.2⟩
    | none =>
      rw [hq] at hx
      have h2 := h1 i x hx
      refine ⟨?_, h2.2⟩
      rw [k.block i (lt_of_block h2.1) id]
      exact h2.1
  · cases hq : a i with
    | none => exact .inl rfl
    | some y =>
      cases hr : f i with
      | none => exact .inr (.inl rfl)
      | some z =>
        have h2 := lt_of_block (h1 i z hr).1
        have h3 := (ha i y hq).2
        omega
theorem row_hp {w : World} {base e size n : Nat} {v : Value} {xs : List Value} (h : w.ownsRow base e size v n xs) : ∃ a : Hp, Row e size v n xs a ∧ ∀ i x, a i = some x → w.heap[i]? = some x.2 ∧ base ≤ i ∧ v.ownBlock = some i := by
  obtain ⟨hl, ⟨rfl, rfl⟩ | ⟨g, cap, cur, rfl, h1, h2, h3, h4, h5, h6⟩⟩ := h
  · exact ⟨fun _ => none, ⟨hl, .inl ⟨rfl, rfl, rfl⟩⟩, fun i x hx => by cases hx⟩
  · refine ⟨one1 g (false, .cells cur e (0, 0)), ⟨hl, .inr ⟨g, cap, cur, rfl, h3, h4, h5, h6, rfl⟩⟩, fun i x hx => ?_⟩
    unfold one1 at hx
    split at hx
    · rename_i e1
      injection hx with hx
      subst hx
      subst e1
      exact ⟨h2, h1, rfl⟩
    · cases hx
theorem rows_hp {w : World} {base : Nat} : ∀ {rs : Rows_}, OwnL base w rs → ∃ a : Hp, OwnR rs a ∧ ∀ i x, a i = some x → w.heap[i]? = some x.2 ∧ base ≤ i ∧ ∃ y ∈ rs, (slOf y).ownBlock = some i
  | [], _ => ⟨fun _ => none, rfl, fun i x hx => by cases hx⟩
  | y :: rs, h => by
    obtain ⟨a, ha, hf⟩ := rows_hp (rs := rs) ⟨fun x hx => h.own x (List.mem_cons_of_mem _ hx), (List.pairwise_cons.1 h.apart).2⟩
    obtain ⟨b, hb, hg⟩ := row_hp (h.own y List.mem_cons_self)
    refine ⟨b.un a, ⟨b, a, fun i => ?_, rfl, hb, ha⟩, fun i x hx => ?_⟩
    · cases hq : b i with
      | none => exact .inl rfl
      | some u =>
        cases hr : a i with
        | none => exact .inr (.inl rfl)
        | some z =>
          obtain ⟨_, _, y', hy', e'⟩ := hf i z hr
          exact absurd e' ((List.pairwise_cons.1 h.apart).1 y' hy' i (hg i u hq).2.2)
    · unfold Hp.un jn at hx
      cases hq : b i with
      | some u =>
        rw [hq] at hx
        injection hx with hx
        subst hx
        have h2 := hg i u hq
        exact ⟨h2.1, h2.2.1, y, List.mem_cons_self, h2.2.2⟩
      | none =>
        rw [hq] at hx
        obtain ⟨h2, h3, y', hy', e'⟩ := hf i x hx
        exact ⟨h2, h3, y', List.mem_cons_of_mem _ hy', e'⟩
/-- A list of rows that a call has made. -/
theorem Sat.gotLL {w0 w w' : World} {F : SP} {v : Value} {rs : Rows_} (h : Sat w0 F w) (k : Chg No w w') (hv : OwnLL w.heap.size w' v rs) : Sat w0 (Row 32 1 v rs.length (rs.map slOf) * (OwnR rs * F)) w' := by
  obtain ⟨a, ha, hf⟩ := rows_hp hv.each
  obtain ⟨b, hb, hg⟩ := row_hp hv.row
  refine (Sat.gather h k (A := Row 32 1 v rs.length (rs.map slOf) * OwnR rs) (b.un a) ⟨b, a, fun i => ?_, rfl, hb, ha⟩ fun i x hx => ?_).of (star_assoc _ _ _)
  · cases hq : b i with
    | none => exact .inl rfl
    | some u =>
      cases hr : a i with
      | none => exact .inr (.inl rfl)
      | some z =>
        obtain ⟨_, _, y', hy', e'⟩ := hf i z hr
        exact absurd (hg i u hq).2.2 (fun e2 => own_ne (hv.each.own y' hy') hv.row (by decide) i e' e2)
  · unfold Hp.un jn at hx
    cases hq : b i with
    | some u =>
      rw [hq] at hx
      injection hx with hx
      subst hx
      have h2 := hg i u hq
      exact ⟨h2.1, h2.2.1⟩
    | none =>
      rw [hq] at hx
      obtain ⟨h2, h3, _⟩ := hf i x hx
      exact ⟨h2, h3⟩
theorem OwnR_rd {w0 w : World} {F : SP} {ks : Rows_} (h : Sat w0 (OwnR ks * F) w) {x : Option Addr × Nat × List UInt8} (hx : x ∈ ks) : Rd w x.1 x.2.2 := (ownR_ownL h).rd hx
end Go.Proofs.Ytaoenbjfkahdjaa
namespace Go.Proofs.Ytaoenbjfkahdjaa
open Go.RowKit
set_option linter.unusedVariables false
set_option maxRecDepth 100000

/-- So many bytes: what is told, what is left, whether there were too few. -/
def takeP (n : Nat) (q : List UInt8) (s : Bool) : List UInt8 × List UInt8 × Bool := if s = true ∨ q.length < n then (List.replicate (min n 8) 0, q, true) else (q.take n, q.drop n, false)
theorem takeP_short {n : Nat} {q : List UInt8} {s : Bool} (h : s = true ∨ q.length < n) : takeP n q s = (List.replicate (min n 8) 0, q, true) := if_pos h
theorem takeP_ok {n : Nat} {q : List UInt8} (h : n ≤ q.length) : takeP n q false = (q.take n, q.drop n, false) := by
  unfold takeP
  rw [if_neg (by simp; omega)]
/-- A reader in memory. -/
def Rdr (w0 : World) (R : Nat) (F : SP) (q : List UInt8) (s : Bool) (w : World) : Prop := ∃ A c, Sat w0 (Pt R 113 #[.slice A q.length c, .bool s] * F) w ∧ Rd w0 A q ∧ q.length ≤ c ∧ c ≤ maxLen
theorem run_make_8 (n : Nat) (hn : n ≤ 8) (W : World) : (Instr.makeSlice 32 (.int .i64 (n : Int)) (.int .i64 (n : Int))).run Try.prog W =
    .ok (.slice (some ⟨W.heap.size, 0, none⟩) n n) (W.alloc (.cells (madeCells #[.int .u8 0] n) 5)) := by
  obtain ⟨i0, hi, hz0, hz1, hz2⟩ := info_parts info_u8o
  have hr := run_make (P := Try.prog) W 32 5 i0 _ Try.underlying32 hi hz0 .i64 .i64 n n (by omega) (by omega) (by rw [hz2]; omega) (by omega)
  have hc : (Value.int .u8 0).cells = #[.int .u8 0] := rfl
  simpa [hz1, hc] using hr
def Took (w0 : World) (R : Nat) (F : SP) (p : List UInt8 × List UInt8 × Bool) (e : Ending) (w' : World) : Prop :=
  ∃ B d, e = .returned (.slice B p.1.length d) ∧ Rd w' B p.1 ∧ (p.2.2 = false → Rd w0 B p.1) ∧ p.1.length ≤ d ∧ d ≤ maxLen ∧ Rdr w0 R F p.2.1 p.2.2 w'
set_option maxHeartbeats 2000000 in
theorem take_any (n : Nat) (hn : n ≤ 65536) (R : Nat) (F : SP) (q : List UInt8) (s : Bool) (w0 w : World) (h : Rdr w0 R F q s w) (hql : q.length ≤ 140737488355328) :
    Calls Try.prog 61 #[.pointer (some ⟨R, 0, none⟩), .int .i64 (n : Int)] w (Took w0 R F (takeP n q s)) := by
  obtain ⟨A, c, hs, hr, hc, hm⟩ := h
  have c0 := hs.cell 0; have c1 := hs.cell 1
  have f0 := hs.frozen 0; have f1 := hs.frozen 1
  have HS := Lib.hid hs
  have HR := Lib.hid hr
  unfold maxLen at hm
  clear hs hr
  by_cases hsh : s = true ∨ q.length < n
  · have HT := Lib.hid (takeP_short hsh)
    have hmin : min (n : Int) 8 = ((min n 8 : Nat) : Int) := by omega
    obtain ⟨k, hk⟩ : ∃ k, min n 8 = k := ⟨_, rfl⟩
    have hk8 : k ≤ 8 := by omega
    have hmk := run_make_8 k hk8
    rw [HT.out, hk]
    rw [hk] at hmin
    have HK := Lib.hid hk
    clear hk
    have HD : Hid (∀ W, Sat w0 (Pt R 113 #[.slice A q.length c, .bool true] * F) W → Took w0 R F (List.replicate k 0, q, true) (.returned (.slice (some ⟨W.heap.size, 0, none⟩) k k)) (W.alloc (.cells (madeCells #[.int .u8 0] k) 5))) := fun W hW =>
      ⟨some ⟨W.heap.size, 0, none⟩, k, by simp, by
        have h0 := RdV.lit W (madeCells #[.int .u8 0] k) 5 (0, 0)
        have e : (madeCells #[.int .u8 0] k).toList = (List.replicate k (0 : UInt8)).map bv := by
          rw [List.map_replicate]
          simp [madeCells, bv, Nat.mod_one, List.map_const']
        rw [e] at h0
        exact h0, by simp, by simp, by unfold maxLen; omega, A, c, hW.alloc' _, HR.out, hc, by unfold maxLen; omega⟩
    have HTr := HD
    rcases Nat.lt_or_ge 8 n with h8 | h8
    case' inr =>
      have hkn : k = n := by have := HK.out; omega
      subst hkn
      have hmz := hmk
      have hmi : ¬ (8 : Int) < k := by omega
    case' inl =>
      have hkn : k = 8 := by have := HK.out; omega
      subst hkn
      have hmz : ∀ W : World, (Instr.makeSlice 32 (.int .i64 8) (.int .i64 8)).run Try.prog W = .ok (.slice (some ⟨W.heap.size, 0, none⟩) 8 8) (W.alloc (.cells (madeCells #[.int .u8 0] 8) 5)) := run_make_8 8 (by omega)
      have hmi : (8 : Int) < n := by omega
    all_goals
      clear hmk hmin HK
      cases s
      case true =>
        go_enter Try.func61, Try.ntmps61
        go_wp2_with fail
        go_ret
        have h9 := HD.out _ (HS.out.set 1 (.bool true))
        rw [show (w.setCell ⟨R, 1, none⟩ (.bool true)).heap.size = w.heap.size by simp] at h9
        exact h9
      case false =>
        have hlt := hsh.resolve_left (by decide)
        go_enter Try.func61, Try.ntmps61
        go_wp2_with fail
        go_ret
        have h9 := HD.out _ (HS.out.set 1 (.bool true))
        rw [show (w.setCell ⟨R, 1, none⟩ (.bool true)).heap.size = w.heap.size by simp] at h9
        exact h9
  · have hs : s = false := by cases s; rfl; simp at hsh
    subst hs
    have hle : n ≤ q.length := by simp at hsh; omega
    have hlt : ¬ (q.length : Int) < n := by omega
    have hlt2 : (n : Int) ≤ q.length := by omega
    have HT := Lib.hid (takeP_ok hle)
    rw [HT.out]
    have HD : Hid (∀ W A' c' cx, A' = (if c = n then A else A.map (·.add n)) → c' = c - n → cx = c → Sat w0 (Pt R 113 #[.slice A' (q.drop n).length c', .bool false] * F) W → Took w0 R F (q.take n, q.drop n, false) (.returned (.slice A (q.take n).length cx)) W) := fun W A' c' cx e1 e2 e3 hW => by
      subst e1 e2 e3
      exact ⟨A, cx, rfl, (HR.out.take n).new hW.chg, fun _ => HR.out.take n, by simp; omega, by unfold maxLen; omega, _, _, hW, HR.out.drop hle hc, by simp; omega, by unfold maxLen; omega⟩
    rw [show (q.take n).length = n by simp; omega, show (q.drop n).length = q.length - n by simp] at HD
    clear hsh
    go_enter Try.func61, Try.ntmps61
    go_wp2_with fail
    all_goals
      go_ret
      first
        | exact HD.out _ _ _ _ (by rw [if_pos ‹c = n›]) (by omega) (by omega) (HS.out.set 0 _)
        | exact HD.out _ _ _ _ (by rw [if_neg ‹¬ c = n›]) (by omega) (by omega) (HS.out.set 0 _)
end Go.Proofs.Ytaoenbjfkahdjaa
