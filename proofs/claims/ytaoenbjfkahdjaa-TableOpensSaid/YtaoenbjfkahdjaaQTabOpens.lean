/- TableOpens. -/
import Derived.Test.YtaoenbjfkahdjaaQ18
import Derived.Test.YtaoenbjfkahdjaaQ21
import Derived.Test.YtaoenbjfkahdjaaQ22
import Derived.Test.YtaoenbjfkahdjaaQTabOpen2
import Derived.Test.YtaoenbjfkahdjaaQRMay
import Derived.Test.YtaoenbjfkahdjaaQTabBack
import Derived.Test.YtaoenbjfkahdjaaQLend
namespace Go.Proofs.Ytaoenbjfkahdjaa
open Go.RowKit Go.ChangeShapes Go.WideShapes Go.Deep
set_option linter.unusedVariables false
set_option maxRecDepth 100000

/-- An edit, as it comes in. -/
structure EdD where
  what : Int
  at_ : Int
  by_ : UInt8
  sm : Bool
def edV (x : EdD) : List Value := [.int .i64 x.what, .int .i64 x.at_, .int .u8 (x.by_.toNat : Int), .bool x.sm]
section
variable {H : Type} {enc : TypeId × Value → H} {w : World} {base : Nat} {spare : Nat → Bool} {held : Bool}
theorem cells_u8 : Try.prog.cellsOf 5 = 1 := by kernel_rfl
theorem edit_of {n : Nat} {cs : List Value} {x : DataW H × List MemPlace} (h : DataW.trod enc Try.prog w base spare held n 70 cs = some x) : ∃ e : EdD, cs = edV e := by
  obtain ⟨xs, m, rfl, hx, hl, hxl, hi⟩ := DataW.trod_struct Try.underlying70 h
  have hl4 : cs.length = 4 := hl.trans (by kernel_rfl)
  have hx4 : xs.length = 4 := hxl
  match cs, hl4, xs, hx4 with
  | [c0, c1, c2, c3], _, [x0, x1, x2, x3], _ =>
    have f0 : DataW.trod enc Try.prog w base spare held m 3 [c0] = some x0 := by have := hi 0 _ rfl; simpa [cells_int] using this
    have f1 : DataW.trod enc Try.prog w base spare held m 3 [c1] = some x1 := by have := hi 1 _ rfl; simpa [cells_int] using this
    have f2 : DataW.trod enc Try.prog w base spare held m 5 [c2] = some x2 := by have := hi 2 _ rfl; simpa [cells_int, cells_u8] using this
    have f3 : DataW.trod enc Try.prog w base spare held m 4 [c3] = some x3 := by have := hi 3 _ rfl; simpa [cells_int, cells_u8, cells_bool] using this
    obtain ⟨a0, e0, _, w0⟩ := DataW.trod_int Try.underlying3 f0
    obtain ⟨a1, e1, _, w1⟩ := DataW.trod_int Try.underlying3 f1
    obtain ⟨a2, e2, _, w2⟩ := DataW.trod_int Try.underlying5 f2
    obtain ⟨a3, e3, _⟩ := DataW.trod_bool Try.underlying4 f3
    injection e0 with e0 _
    injection e1 with e1 _
    injection e2 with e2 _
    injection e3 with e3 _
    subst e0; subst e1; subst e2; subst e3
    have hb := bounds_u8 w2
    refine ⟨⟨a0, a1, UInt8.ofNat a2.toNat, a3⟩, ?_⟩
    unfold edV
    have : ((UInt8.ofNat a2.toNat).toNat : Int) = a2 := by rw [UInt8.toNat_ofNat', Nat.mod_eq_of_lt (by omega)]; omega
    rw [this]
end
theorem EnsIn.new {w w' : World} {A : Option Addr} {c : Nat} {l : List En} (h : EnsIn w A c l) (k : Chg No w w') : EnsIn w' A c l := ⟨h.1, h.2.1, h.2.2.1.new k, h.2.2.2.1, fun e he => (h.2.2.2.2 e he).new k⟩
theorem fit_of {L : List Ent} {es : List En} (he : es.map En.ent = L) (hb : buildE L = 0) (hs : ∀ e ∈ L, e.seq < 9223372036854775808) (hc : ∀ y ∈ es, CapE y) : ∀ y ∈ es, FitE y := fun y hy => by
  have h1 : y.ent ∈ L := by rw [← he]; exact List.mem_map_of_mem hy
  have h2 := mayE_iff.1 (buildE_may hb _ h1)
  have h3 := hs _ h1
  have h4 : y.key.2.2.length ≤ 128 := h2.1
  have h5 : y.value.2.2.length ≤ 16384 := h2.2.1
  have h6 : y.seq < 9223372036854775808 := h3
  have h7 : 0 ≤ y.seq := h2.2.2.2
  exact ⟨by omega, by omega, hc y hy, by unfold isI64; omega⟩
theorem rrange7 (A : Option Addr) (c : Nat) (rs : List En) (M : List Ent) (hM : rs.map En.ent = M) (n : Nat) (hn : rs.length = n) (F T : Slc) (w : World) (h : RdV w A (rs.flatMap enV)) (hr : EnsR w rs) (hf : Rd w F.1 F.2.2) (ht : Rd w T.1 T.2.2) (hc : n ≤ c) (hm : c ≤ maxLen) (hl : n ≤ 65536) :
    Calls Try.prog 39 #[.slice A n c, .slice F.1 F.2.2.length F.2.1, .slice T.1 T.2.2.length T.2.1] w (AllE w (rngL F.2.2 T.2.2 M)) := by
  subst hM; subst hn
  exact rrange_any A c rs F T w h hr hf ht hc hm (by omega)
theorem tlen7 (T : Nat) (es : List En) (n : Nat) (hn : es.length = n) (w : World) (h : TabR w T es) :
    Calls Try.prog 40 #[.pointer (some ⟨T, 0, none⟩)] w fun x w' => x = .returned (.int .i64 (n : Int)) ∧ w = w' := by
  subst hn
  exact (tlen_any T es w h).mono fun x w' ⟨h1, h2⟩ => ⟨h1, h2.symm⟩
theorem tmay7 (K : Slc) (T : Nat) (es : List En) (M : List Ent) (hM : es.map En.ent = M) (b : Bool) (hb : hasKey (bitsB M) K.2.2 = b) (w : World) (hk : Rd w K.1 K.2.2) (hl : K.2.2.length ≤ 140737488355328) (h : TabR w T es) :
    Calls Try.prog 34 #[.pointer (some ⟨T, 0, none⟩), .slice K.1 K.2.2.length K.2.1] w (Asked b w) := by
  subst hM; subst hb
  exact tmay_any K T es w hk hl h
theorem rmay7 (A : Option Addr) (c : Nat) (rs : List En) (M : List Ent) (hM : rs.map En.ent = M) (n : Nat) (hn : rs.length = n) (K : Slc) (b : Bool) (hb : hasKey (bitsB M) K.2.2 = b) (w : World) (h : RdV w A (rs.flatMap enV)) (hr : EnsR w rs) (hc : n ≤ c) (hm : c ≤ maxLen) (hnl : n ≤ 65536) (hsh : ∀ e ∈ M, e.key.length ≤ 140737488355328) (hk : Rd w K.1 K.2.2) (hkl : K.2.2.length ≤ 140737488355328) :
    Calls Try.prog 41 #[.slice A n c, .slice K.1 K.2.2.length K.2.1] w (Asked b w) := by
  subst hM; subst hn; subst hb
  exact rmay_any A c rs K w h hr hc hm hnl (fun e he => hsh e.ent (List.mem_map_of_mem he)) hk hkl
theorem tget7 (K : Slc) (seq : Int) (T : Nat) (es : List En) (M : List Ent) (hM : es.map En.ent = M) (hp : M.Pairwise LTE) (b : Bool) (d : Ent) (hb : (findE K.2.2 seq M).isSome = b) (hd : (findE K.2.2 seq M).getD noE = d) (w : World) (hk : Rd w K.1 K.2.2) (h : TabR w T es) :
    Calls Try.prog 33 #[.pointer (some ⟨T, 0, none⟩), .slice K.1 K.2.2.length K.2.1, .int .i64 seq] w fun x w' => ∃ g : En, x = .returned (.tuple #[.agg #[.slice g.key.1 g.key.2.2.length g.key.2.1, .slice g.value.1 g.value.2.2.length g.value.2.1, .int .i64 g.seq, .bool g.dead], .bool b]) ∧ g.ent = d ∧ EnR w' g ∧ Chg No w w' := by
  subst hM; subst hb; subst hd
  refine (tget_any K seq T es w hk h).mono ?_
  rintro x w' ⟨g, rfl, h1, h2⟩
  rw [get_find hp] at h1 ⊢
  exact ⟨g, rfl, h1, ownE_r (h2.of (star_emp _).symm) g (by simp), h2.chg⟩
theorem rget7 (A : Option Addr) (c : Nat) (rs : List En) (M : List Ent) (hM : rs.map En.ent = M) (n : Nat) (hn : rs.length = n) (K : Slc) (seq : Int) (b : Bool) (d : Ent) (hb : (findE K.2.2 seq M).isSome = b) (hd : (findE K.2.2 seq M).getD noE = d) (w : World) (h : RdV w A (rs.flatMap enV)) (hr : EnsR w rs) (hk : Rd w K.1 K.2.2) (hc : n ≤ c) (hm : c ≤ maxLen) :
    Calls Try.prog 42 #[.slice A n c, .slice K.1 K.2.2.length K.2.1, .int .i64 seq] w fun x w' => ∃ g : En, x = .returned (.tuple #[.agg #[.slice g.key.1 g.key.2.2.length g.key.2.1, .slice g.value.1 g.value.2.2.length g.value.2.1, .int .i64 g.seq, .bool g.dead], .bool b]) ∧ g.ent = d ∧ EnR w' g ∧ Chg No w w' := by
  subst hM; subst hn; subst hb; subst hd
  refine (rget_any A c rs K seq w h hr hk hc hm).mono ?_
  rintro x w' ⟨⟨g, rfl, h1, h2, _⟩, h3⟩
  exact ⟨g, rfl, h1, h2, h3⟩
theorem edges7 (T : Nat) (es : List En) (M : List Ent) (hM : es.map En.ent = M) (w : World) (h : TabR w T es) :
    Calls Try.prog 43 #[.pointer (some ⟨T, 0, none⟩)] w (EdgesT M w) := by
  subst hM
  exact edges_any T es w h
/-- Bytes that open: what the document says of them, too. -/
theorem opn_bad7 (g : Nat) (q : List UInt8) (d : Nat) (z : Nat) (hz : openE q = z) (h0 : z ≠ 0) (w : World) (h : Rd w (some ⟨g, 0, none⟩) q) (hd : q.length ≤ d) (hm : d ≤ maxLen) (hl : q.length ≤ 2000005) :
    Calls Try.prog 15 #[.slice (some ⟨g, 0, none⟩) q.length d] w fun x w' => x = .returned (.tuple #[.pointer none, .int .i64 (z : Int)]) ∧ Chg No w w' := by
  refine (open2_any (some ⟨g, 0, none⟩) d q w h hd hm (by omega)).mono ?_
  rintro x w' (⟨_, rfl, k⟩ | ⟨h1, _⟩)
  · rw [hz]; exact ⟨rfl, k⟩
  · exact absurd (hz ▸ h1) h0
def OpnOk (M : List Ent) (w : World) (x : Ending) (w' : World) : Prop := ∃ (T : Nat) (es : List En), x = .returned (.tuple #[.pointer (some ⟨T, 0, none⟩), .int .i64 0]) ∧ es.map En.ent = M ∧ TabR w' T es ∧ Chg No w w' ∧ ∀ w2, Chg (fun i => i < w.heap.size) w' w2 → TabR w2 T es
theorem opn_ok7 (g : Nat) (q : List UInt8) (d : Nat) (M : List Ent) (hM : (readP q).1 = M) (h0 : openE q = 0) (w : World) (h : Rd w (some ⟨g, 0, none⟩) q) (hd : q.length ≤ d) (hm : d ≤ maxLen) (hl : q.length ≤ 2000005) :
    Calls Try.prog 15 #[.slice (some ⟨g, 0, none⟩) q.length d] w (OpnOk M w) := by
  refine (open2_any (some ⟨g, 0, none⟩) d q w h hd hm (by omega)).mono ?_
  rintro x w' (⟨h1, _⟩ | ⟨_, T, es, rfl, h2, h3, h4, h5⟩)
  · exact absurd h0 h1
  · exact ⟨T, es, rfl, h2.trans hM, h3, h4, h5⟩
theorem ent_bad7 (A : Option Addr) (c : Nat) (q : List UInt8) (z : Nat) (hz : openE q = z) (h0 : z ≠ 0) (w : World) (h : Rd w A q) (hd : q.length ≤ c) (hm : c ≤ maxLen) (hl : q.length ≤ 2000005) :
    Calls Try.prog 37 #[.slice A q.length c] w fun x w' => x = .returned (.tuple #[.slice none 0 0, .int .i64 (z : Int)]) ∧ Chg No w w' := by
  refine (rents_any A c q w h hd hm (by omega)).mono ?_
  rintro x w' (⟨_, rfl, k⟩ | ⟨h1, _⟩)
  · rw [hz]; exact ⟨rfl, k⟩
  · exact absurd (hz ▸ h1) h0
def EntOk (M : List Ent) (n : Nat) (w : World) (x : Ending) (w' : World) : Prop := ∃ (rs : List En) (A : Option Addr) (c : Nat), x = .returned (.tuple #[.slice A n c, .int .i64 0]) ∧ rs.length = n ∧ rs.map En.ent = M ∧ n ≤ c ∧ c ≤ maxLen ∧ Sat w (Row 34 4 (.slice A n c) n (rs.flatMap enV) * (OwnE rs * Emp)) w'
theorem ent_ok7 (A : Option Addr) (c : Nat) (q : List UInt8) (M : List Ent) (hM : (readP q).1 = M) (n : Nat) (hn : M.length = n) (h0 : openE q = 0) (w : World) (h : Rd w A q) (hd : q.length ≤ c) (hm : c ≤ maxLen) (hl : q.length ≤ 2000005) :
    Calls Try.prog 37 #[.slice A q.length c] w (EntOk M n w) := by
  refine (rents_any A c q w h hd hm (by omega)).mono ?_
  rintro x w' (⟨h1, _⟩ | ⟨_, rs, B, d, rfl, h2, h3, h4, h5⟩)
  · exact absurd h0 h1
  · have e : rs.length = n := by rw [← hn, ← hM, ← h2, List.length_map]
    subst e
    exact ⟨rs, B, d, rfl, rfl, h2.trans hM, h3, h4, h5⟩
theorem back7 (g d : Nat) (B : Option Addr) (l : List UInt8) (w0 w : World) (hw : Chg No w0 w) (hgw : w0.heap.size ≤ g) (hg : At w g 5 (Marked l)) (hb : Rd w B l) (hl : l.length ≤ 2000005) :
    Calls Try.prog 38 #[.slice (some ⟨g, 0, none⟩) l.length (l.length + 2), .slice B l.length d] w fun x w' => x = .returned (.bool true) ∧ Chg (One g) w w' ∧ Chg No w0 w' :=
  (back_yes g d B l w hg hb (by omega)).mono fun x w' ⟨h1, h2⟩ => ⟨h1, h2, hw.own h2 (fun i hi => by have e : i = g := hi; omega)⟩
set_option maxRecDepth 100000 in
set_option maxHeartbeats 8000000 in
theorem tableOpens_walk (A : Option Addr) (cap : Nat) (l : List En) (e : EdD) (fA : Option Addr) (fc : Nat) (fl : List UInt8) (tA : Option Addr) (tc : Nat) (tl : List UInt8) (seq : Int) (w : World) (hl : EnsIn w A cap l)
    (hf : fl.length ≤ fc ∧ fc ≤ maxLen ∧ Rd w fA fl ∧ fl.length ≤ 140737488351232 ∧ (fA = none → fc = 0)) (ht : tl.length ≤ tc ∧ tc ≤ maxLen ∧ Rd w tA tl ∧ tl.length ≤ 140737488351232 ∧ (tA = none → tc = 0)) (hq : -9223372036854775808 ≤ seq ∧ seq ≤ 9223372036854775807) :
    Calls Try.prog 9 #[.slice A l.length cap, .agg #[.int .i64 e.what, .int .i64 e.at_, .int .u8 (e.by_.toNat : Int), .bool e.sm], .slice fA fl.length fc, .slice tA tl.length tc, .int .i64 seq] w (Asked true w) := by
  have hi := hl.2.2.2.2
  obtain ⟨L, hL⟩ : ∃ L, L = rowL (l.map En.ent) := ⟨_, rfl⟩
  have HB : Hid (buildE L = 0) := by rw [hL]; exact rowL_ok _ fun e he => by obtain ⟨x, hx, rfl⟩ := List.mem_map.1 he; exact (hi x hx).s
  have HSq : Hid (∀ e ∈ L, e.seq < 9223372036854775808) := by rw [hL]; exact rowL_seq fun e he => by obtain ⟨x, hx, rfl⟩ := List.mem_map.1 he; exact (hi x hx).s
  have hLl : L.length ≤ 60 := by rw [hL]; exact rowL_len _
  have hbl0 := (buildB_len60 HB.out hLl).1
  obtain ⟨b0, hb0⟩ : ∃ b, b = buildB L := ⟨_, rfl⟩
  rw [← hb0] at hbl0
  have HB0 : Hid (b0 = if (0 : Nat) = 0 then buildB L else []) := by unfold Hid; rw [hb0]; rfl
  have HR : Hid (∀ W, Chg No w W → Calls Try.prog 10 #[.slice A l.length cap] W (RowIn L W)) := fun W k => by rw [hL]; exact row7_any A cap l W (hl.new k)
  have HRf := Lib.hid hf.2.2.1; have HRt := Lib.hid ht.2.2.1
  have hfl := hf.2.2.2.1; have htl := ht.2.2.2.1
  have Hq := Lib.hid hq
  clear hL hl hi hb0 hf ht hq
  obtain ⟨what, at_, by_, sm⟩ := e
  simp only []
  obtain ⟨V, hV⟩ : ∃ V : Array Value, V = #[.int .i64 what, .int .i64 at_, .int .u8 (by_.toNat : Int), .bool sm] := ⟨_, rfl⟩
  have HS0 : Hid (Sat w (Pt w.heap.size 70 #[.int .i64 what, .int .i64 at_, .int .u8 (by_.toNat : Int), .bool sm] * Emp) (w.alloc (.cells #[.int .i64 what, .int .i64 at_, .int .u8 (by_.toNat : Int), .bool sm] 70))) := (Sat.start w).allocPt _ _
  clear hV V
  go_enter Try.func9, Try.ntmps9
  go_upto_region 2 with (first
    | (go_at_call 10; (with_reducible refine (HR.out _ HS0.out.chg).mono ?_); rintro x w1 ⟨es, A1, c1, rfl, q1, q2, q3, q4, q5, q6, q7⟩; have HS1 := Lib.hid (HS0.out.new q7); have HO := Lib.hid (rbld_S A1 c1 es L q1 b0 0 HB.out HB0.out w w1 _ HS1.out q4 q5 q2 q3 (fit_of q1 HB.out HSq.out q6)); clear q1 q2 q3 q4 q5 q6 q7)
    | (go_at_call 25; (with_reducible refine HO.out.mono ?_); rintro x w2 ⟨B, d, rfl, hs⟩; have HS2 := Lib.hid hs; clear hs))
  have d0 := HS2.out.up2.cell 0; have d1 := HS2.out.up2.cell 1; have d2 := HS2.out.up2.cell 2; have d3 := HS2.out.up2.cell 3
  have HE := Lib.hid (edited_any B d b0 what at_ by_ sm w2 HS2.out.row_rdK hbl0)
  go_upto_region 3 with (go_at_call 35; (with_reducible refine HE.out.mono ?_); rintro x w3 ⟨B3, q, c3, rfl, h1, h2, h3, h4, h5⟩; have H1 := Lib.hid h1; have H2 := Lib.hid h2; have H3 := Lib.hid h3; have H4 := Lib.hid h4; have HC3 := Lib.hid (HS2.out.chg.tr h5); clear h1 h2 h3 h4 h5)
  have hql : q.length ≤ 2000005 := by have := H1.out; omega
  go_upto_region 4 with (go_at_call 36; (with_reducible refine (lend_any B3 c3 q w3 H4.out (by omega)).mono ?_); rintro x w4 ⟨g, rfl, h1, h2, h3⟩; have HG := Lib.hid h1; have HAt := Lib.hid h2; have HC4 := Lib.hid h3; clear h1 h2 h3)
  have HMk := Lib.hid (marked_rd HAt.out)
  have HC0 := Lib.hid (HC3.out.tr HC4.out)
  have hg0 : Hid (w.heap.size ≤ g) := by have h1 := HC3.out.size; have h2 := HG.out; unfold Hid; omega
  have hgl : Hid (g < w4.heap.size) := HAt.out.lt
  obtain ⟨z, hz⟩ : ∃ z, openE q = z := ⟨_, rfl⟩
  clear HR HS0 HE d0 d1 d2 d3
  by_cases hz0 : z = 0
  · obtain ⟨M, hM⟩ : ∃ M, (readP q).1 = M := ⟨_, rfl⟩
    obtain ⟨n, hn⟩ : ∃ n, M.length = n := ⟨_, rfl⟩
    have hmq : q.length + 2 ≤ maxLen := by unfold maxLen; omega
    rw [hz0] at hz
    have HO := Lib.hid (opn_ok7 g q (q.length + 2) M hM hz w4 HMk.out (by omega) hmq hql)
    have HEn := Lib.hid (fun W (k : Chg No w4 W) => ent_ok7 B3 c3 q M hM n hn hz W ((H4.out.new HC4.out).new k) H2.out H3.out hql)
    clear hmq hz0
    have HN := Lib.hid hn
    have HSqM : Hid (∀ e ∈ M, e.seq < 9223372036854775808) := by rw [← hM]; exact readP_seq (b := q) _ _ (by simp)
    clear hM hz hn
    go_upto_region 6 with (first
      | (go_at_call 15; (with_reducible refine HO.out.mono ?_); rintro x w5 ⟨T, es5, rfl, h1, h2, h3, h4⟩; have HEs := Lib.hid h1; have HT := Lib.hid h2; have HC5 := Lib.hid h3; have HSt := Lib.hid h4; have HEn5 := Lib.hid (HEn.out _ h3); clear h1 h2 h3 h4)
      | (go_at_call 37; (with_reducible refine HEn5.out.mono ?_); rintro x w6 ⟨rs, RA, rc, rfl, h1, h2, h3, h4, h5⟩; have HRn := Lib.hid h1; have HRs := Lib.hid h2; have HRc := Lib.hid h3; have HRm := Lib.hid h4; have HRS := Lib.hid h5; clear h1 h2 h3 h4 h5))
    have HC6 := Lib.hid (HRS.out.chg)
    go_upto_region 10 with (first
      | (go_at_call 28; (with_reducible refine (tnum_any _ _).mono ?_); rintro x wx ⟨rfl, rfl⟩)
      | (go_at_call 30; (with_reducible refine (wakes7_any w6).mono ?_); rintro x w7 ⟨rfl, h1⟩; have HC7 := Lib.hid h1; clear h1))
    have HC67 := Lib.hid ((HC5.out.tr HC6.out).tr HC7.out)
    have HBk := Lib.hid (back7 g c3 B3 q w w7 (HC0.out.tr HC67.out) hg0.out (HAt.out.chg HC67.out id) ((H4.out.new HC4.out).new HC67.out) hql)
    have HG4 := Lib.hid (HC5.out.size)
    obtain ⟨hk, hhk⟩ : ∃ hk, hasKey (bitsB M) fl = hk := ⟨_, rfl⟩
    have HHk := Lib.hid hhk
    clear hhk
    have HEn5l : Hid (es5.length = n) := by unfold Hid; rw [← HN.out, ← HEs.out, List.length_map]
    have HNl : Hid (n ≤ 65536) := by rw [← HEn5l.out]; exact HT.out.few
    have HKl : Hid (∀ e ∈ M, e.key.length ≤ 140737488355328) := fun e he => by have h9 := (mayE_iff.1 (buildE_may HT.out.ok e (by rw [HEs.out]; exact he))).1; omega
    have HFl : Hid (fl.length ≤ 140737488355328) := by unfold Hid; omega
    have HAl1 : Hid (∀ (f1 : List En) (F1 : Option Addr) (fc1 : Nat) (W W' : World) (G : SP), f1.map En.ent = M → f1.length ≤ fc1 → fc1 ≤ maxLen → Sat W (Row 34 4 (.slice F1 f1.length fc1) f1.length (f1.flatMap enV) * (OwnE f1 * G)) W' → RdV W' RA (rs.flatMap enV) → EnsR W' rs → Calls Try.prog 19 #[.slice F1 f1.length fc1, .slice RA n rc] W' (Asked true W')) := fun f1 F1 fc1 W W' G h1 h2 h3 h4 h5 h6 => by
      have h9 := alike7 F1 RA fc1 rc f1 rs W' (h1.trans HRs.out.symm) h4.row_rdK (ownE_r h4.right) h5 h6 h2 h3 (by rw [HRn.out]; exact HRc.out) HRm.out
      rw [HRn.out] at h9
      exact h9
    have HRr : Hid (∀ w8, Chg (One g) w7 w8 → RdV w8 RA (rs.flatMap enV) ∧ EnsR w8 rs) := fun w8 k => by
      have k2 : Chg (fun i => i < w5.heap.size) w6 w8 := HC7.out.no.trans k (fun i _ hi => by have e : i = g := hi; have h1 := hgl.out; have h2 := HG4.out; show i < _; omega)
      obtain ⟨b0, _, h9⟩ := Sat.low HRS.out k2 (Own.star (own_row _ _ _ _ _) (Own.star own_ownE own_emp))
      exact ⟨h9.row_rdK, ownE_r h9.right⟩
    have HTs : Hid (∀ w8, Chg (One g) w7 w8 → TabR w8 T es5) := fun w8 k => HSt.out w8 ((HC6.out.tr HC7.out).no.trans k (fun i _ hi => by have e : i = g := hi; have h1 := hgl.out; show i < _; omega))
    go_upto_region 12 with (first
      | (go_at_call 38; (with_reducible refine HBk.out.mono ?_); rintro x w8 ⟨rfl, h1, h2⟩; have HR8 := Lib.hid (HRr.out w8 h1); have HT8 := Lib.hid (HTs.out w8 h1); have HC8 := Lib.hid h2; have HG8 := Lib.hid (Sat.start w8); clear h1 h2)
      | (go_at_call 16; (with_reducible refine (rng_any_all T es5 M HEs.out HSqM.out w8 w8 _ HG8.out HT8.out).mono ?_); rintro x w9 ⟨f1, F1, fc1, rfl, q1, q2, q3, q4, q5⟩; have HAk1 := Lib.hid (HAl1.out f1 F1 fc1 w8 w9 _ q1 q2 q3 q4 (HR8.out.1.new q5) (fun e he => (HR8.out.2 e he).new q5)); have HC9 := Lib.hid q5; clear q1 q2 q3 q4 q5)
      | (go_at_call 19; (with_reducible refine HAk1.out.mono ?_); rintro x w10 ⟨rfl, q1⟩; have HC10 := Lib.hid (HC9.out.tr q1); have HT10 := Lib.hid (HT8.out.new (HC9.out.tr q1)); have HG10 := Lib.hid (Sat.start w10); have HF10 := Lib.hid ((HRf.out.new HC8.out).new HC10.out); have HU10 := Lib.hid ((HRt.out.new HC8.out).new HC10.out); clear q1)
      | (go_at_call 16; (with_reducible refine (rangeH (fA, fc, fl) (tA, tc, tl) T es5 M HEs.out HSqM.out w10 w10 _ HG10.out HF10.out HU10.out HT10.out).mono ?_); rintro x w11 ⟨f2, F2, fc2, rfl, q1, q2, q3, q4, q5⟩; have HQ1 := Lib.hid q1; have HQ2 := Lib.hid q2; have HQ3 := Lib.hid q3; have HQ4 := Lib.hid q4; have HC11 := Lib.hid (HC10.out.tr q5); have HRR := Lib.hid (rrange7 RA rc rs M HRs.out n HRn.out (fA, fc, fl) (tA, tc, tl) w11 (HR8.out.1.new (HC10.out.tr q5)) (fun e he => (HR8.out.2 e he).new (HC10.out.tr q5)) (HF10.out.new q5) (HU10.out.new q5) HRc.out HRm.out HNl.out); clear q1 q2 q3 q4 q5)
      | (go_at_call 39; (with_reducible refine HRR.out.mono ?_); rintro x w12 ⟨g2, G2, gc2, rfl, q1, q2, q3, q4, q5, q6⟩; have HAk2 := Lib.hid (alike7 F2 G2 fc2 gc2 f2 g2 w12 (HQ1.out.trans q1.symm) (HQ4.out.new q6).row_rdK (ownE_r (HQ4.out.new q6).right) q4 q5 HQ2.out HQ3.out q2 q3); have HC12 := Lib.hid (HC11.out.tr q6); clear q1 q2 q3 q4 q5 q6)
      | (go_at_call 19; (with_reducible refine HAk2.out.mono ?_); rintro x w13 ⟨rfl, q1⟩; have HC13 := Lib.hid (HC12.out.tr q1); have HT13 := Lib.hid (HT8.out.new (HC12.out.tr q1)); have HF13 := Lib.hid ((HRf.out.new HC8.out).new (HC12.out.tr q1)); clear q1)
      | (go_at_call 40; (with_reducible refine (tlen7 T es5 n HEn5l.out w13 HT13.out).mono ?_); rintro x wx ⟨rfl, rfl⟩)
      | (go_at_call 34; (with_reducible refine (tmay7 (fA, fc, fl) T es5 M HEs.out hk HHk.out w13 HF13.out HFl.out HT13.out).mono ?_); rintro x w14 ⟨rfl, q1⟩; have HMy := Lib.hid (rmay7 RA rc rs M HRs.out n HRn.out (fA, fc, fl) hk HHk.out w14 (HR8.out.1.new (HC13.out.tr q1)) (fun e he => (HR8.out.2 e he).new (HC13.out.tr q1)) HRc.out HRm.out HNl.out HKl.out (HF13.out.new q1) HFl.out); have HC14 := Lib.hid (HC13.out.tr q1); clear q1)
      | (go_at_call 41; (with_reducible refine HMy.out.mono ?_); rintro x w15 ⟨rfl, q1⟩; have HC15 := Lib.hid (HC14.out.tr q1); clear q1))
    have HT15 := Lib.hid (HT8.out.new HC15.out)
    have HF15 := Lib.hid ((HRf.out.new HC8.out).new HC15.out)
    have hpw : M.Pairwise LTE := by rw [← HEs.out]; exact sorted_pw (buildE_sorted HT.out.ok)
    obtain ⟨bo, hbo⟩ : ∃ b, (findE fl seq M).isSome = b := ⟨_, rfl⟩
    obtain ⟨de, hde⟩ : ∃ d, (findE fl seq M).getD noE = d := ⟨_, rfl⟩
    have HTg := Lib.hid (tget7 (fA, fc, fl) seq T es5 M HEs.out hpw bo de hbo hde w15 HF15.out HT15.out)
    have HRg := Lib.hid (fun W (k : Chg No w8 W) => rget7 RA rc rs M HRs.out n HRn.out (fA, fc, fl) seq bo de hbo hde W (HR8.out.1.new k) (fun e he => (HR8.out.2 e he).new k) ((HRf.out.new HC8.out).new k) HRc.out HRm.out)
    have HEd := Lib.hid (fun W (k : Chg No w8 W) => edges7 T es5 M HEs.out W (HT8.out.new k))
    clear hpw hbo hde
    go_upto_region 15 with (first
      | (go_at_call 33; (with_reducible refine HTg.out.mono ?_); rintro x w16 ⟨g1, rfl, q1, q2, q3⟩; have HG1 := Lib.hid q1; have HR1 := Lib.hid q2; have HC16 := Lib.hid (HC15.out.tr q3); have HS16 := Lib.hid ((Sat.start w16).allocPt 34 #[.slice g1.key.1 g1.key.2.2.length g1.key.2.1, .slice g1.value.1 g1.value.2.2.length g1.value.2.1, .int .i64 g1.seq, .bool g1.dead]); have HRg16 := Lib.hid (HRg.out _ (HC16.out.alloc (.cells #[.slice g1.key.1 g1.key.2.2.length g1.key.2.1, .slice g1.value.1 g1.value.2.2.length g1.value.2.1, .int .i64 g1.seq, .bool g1.dead] 34))); clear q1 q2 q3)
      | (go_at_call 42; (with_reducible refine HRg16.out.mono ?_); rintro x w17 ⟨g2, rfl, q1, q2, q3⟩; have HG2 := Lib.hid q1; have HR2 := Lib.hid q2; have HS17 := Lib.hid ((HS16.out.new q3).allocPt 34 #[.slice g2.key.1 g2.key.2.2.length g2.key.2.1, .slice g2.value.1 g2.value.2.2.length g2.value.2.1, .int .i64 g2.seq, .bool g2.dead]); have HEd17 := Lib.hid (HEd.out _ (HC16.out.tr HS17.out.chg)); clear q1 q2 q3)
      | (go_at_call 43; (with_reducible refine HEd17.out.mono ?_); rintro x w18 ⟨⟨eA, ec, el⟩, ⟨yA, yc, yl⟩, rfl, q1, q2, q3, q4, q5⟩; have HE1 := Lib.hid q1; have HE2 := Lib.hid q2; have HE3 := Lib.hid q3; have HE4 := Lib.hid q4; have HC18 := Lib.hid q5; have HS18 := Lib.hid (HS17.out.new q5); clear q1 q2 q3 q4 q5))
    have d0 := HS18.out.cell 0; have d1 := HS18.out.cell 1; have d2 := HS18.out.cell 2; have d3 := HS18.out.cell 3
    have a0 := HS18.out.up2.cell 0; have a1 := HS18.out.up2.cell 1; have a2 := HS18.out.up2.cell 2; have a3 := HS18.out.up2.cell 3
    have HSm : Hid (Calls Try.prog 23 #[.agg #[.slice g1.key.1 g1.key.2.2.length g1.key.2.1, .slice g1.value.1 g1.value.2.2.length g1.value.2.1, .int .i64 g1.seq, .bool g1.dead], .agg #[.slice g2.key.1 g2.key.2.2.length g2.key.2.1, .slice g2.value.1 g2.value.2.2.length g2.value.2.1, .int .i64 g2.seq, .bool g2.dead]] w18 (Asked true w18)) := by
      have h9 := eqE_any g1 g2 w18 (HR1.out.new HS18.out.chg) (HR2.out.new (((Chg.refl No w17).alloc _).tr HC18.out))
      rw [(eqE_iff _ _).2 (HG1.out.trans HG2.out.symm)] at h9
      exact h9
    have HCe := Lib.hid (HC16.out.tr HS18.out.chg)
    have HRr9 := Lib.hid (HR8.out.1.new HCe.out)
    have HEr9 : Hid (EnsR w18 rs) := fun e he => (HR8.out.2 e he).new HCe.out
    cases bo
    all_goals
      go_upto_region 17 with (go_at_call 23; (with_reducible refine HSm.out.mono ?_); rintro x w19 ⟨rfl, q1⟩; have HC19 := Lib.hid q1; clear q1)
      by_cases hn0 : n = 0
      · have hM0 : M = [] := List.eq_nil_of_length_eq_zero (HN.out.trans hn0)
        obtain rfl : el = [] := by rw [HE1.out, hM0]; rfl
        obtain rfl : yl = [] := by rw [HE2.out, hM0]; rfl
        have hni : ((n : Int) == 0) = true := by rw [beq_iff_eq]; omega
        clear hM0 hn0
        go_wp2_with fail
        go_ret
        exact ⟨rfl, HC8.out.tr (HCe.out.tr HC19.out)⟩
      · have hni : ((n : Int) == 0) = false := by rw [beq_eq_false_iff_ne]; omega
        have hrn := HRn.out
        obtain ⟨rb, ro, rfl, hcl⟩ := ents_at (HRr9.out.new HC19.out) (show 0 < rs.length by omega)
        have y0 := (hcl 0 (by omega)).1
        have y1 := (hcl (n - 1) (by omega)).1
        unfold slv' at y0 y1
        have hl0 : rs[0].key.2.2 = el := by
          rw [HE1.out]
          unfold firstK
          rw [← HRs.out, List.getElem?_map, List.getElem?_eq_getElem (show 0 < rs.length by omega)]
          rfl
        have hl1 : (rs[n - 1]'(by omega)).key.2.2 = yl := by
          rw [HE2.out]
          unfold lastK
          rw [HN.out, ← HRs.out, List.getElem?_map, List.getElem?_eq_getElem (show n - 1 < rs.length by omega)]
          rfl
        have hr0 := (HEr9.out rs[0] (List.getElem_mem _)).1.new HC19.out
        have hr1 := (HEr9.out (rs[n - 1]'(by omega)) (List.getElem_mem _)).1.new HC19.out
        rw [hl0] at y0 hr0
        rw [hl1] at y1 hr1
        have HS1 := Lib.hid (same8 eA ec rs[0].key.1 rs[0].key.2.1 el el.length rfl w19 (HE3.out.new HC19.out) hr0)
        have HS2 := Lib.hid (same8 yA yc (rs[n - 1]'(by omega)).key.1 (rs[n - 1]'(by omega)).key.2.1 yl yl.length rfl w19 (HE4.out.new HC19.out) hr1)
        generalize rs[0].key.1 = k0A at *
        generalize rs[0].key.2.1 = k0c at *
        generalize (rs[n - 1]'(by omega)).key.1 = k1A at *
        generalize (rs[n - 1]'(by omega)).key.2.1 = k1c at *
        have hn1 : (0 : Int) < n := by omega
        have hn2 : (n : Int) - 1 = ((n - 1 : Nat) : Int) := by omega
        have hn3 : (0 : Int) ≤ ((n - 1 : Nat) : Int) := by omega
        have hn4 : ((n - 1 : Nat) : Int) < n := by omega
        have hn5 : IntKind.i64.wrap ((n - 1 : Nat) : Int) = ((n - 1 : Nat) : Int) := by have h9 := HNl.out; rw [IntKind.wrap_i64]; omega
        rw [Nat.zero_mul, Nat.add_zero] at y0
        clear hr0 hr1 hl0 hl1 hcl hrn hn0
        generalize n - 1 = z at *
        go_wp2_with (first
          | (go_at_call 27; (with_reducible refine HS1.out.mono ?_); rintro x wx ⟨rfl, rfl⟩)
          | (go_at_call 27; (with_reducible refine HS2.out.mono ?_); rintro x wx ⟨rfl, rfl⟩))
        go_ret
        exact ⟨rfl, HC8.out.tr (HCe.out.tr HC19.out)⟩
  · have hmq : q.length + 2 ≤ maxLen := by unfold maxLen; omega
    have HO := Lib.hid (opn_bad7 g q (q.length + 2) z hz hz0 w4 HMk.out (by omega) hmq hql)
    have HEn := Lib.hid (fun W (k : Chg No w4 W) => ent_bad7 B3 c3 q z hz hz0 W ((H4.out.new HC4.out).new k) H2.out H3.out hql)
    have hzi : ((z : Int) == 0) = false := by rw [beq_eq_false_iff_ne]; omega
    have hzj : ((z : Int) != 0) = true := by rw [bne_iff_ne]; omega
    clear hz hz0 hmq
    go_upto_region 9 with (first
      | (go_at_call 15; (with_reducible refine HO.out.mono ?_); rintro x w5 ⟨rfl, h1⟩; have HC5 := Lib.hid h1; have HEn5 := Lib.hid (HEn.out _ h1); clear h1)
      | (go_at_call 37; (with_reducible refine HEn5.out.mono ?_); rintro x w6 ⟨rfl, h1⟩; have HC6 := Lib.hid h1; clear h1)
      | (go_at_call 28; (with_reducible refine (tnum_any _ _).mono ?_); rintro x wx ⟨rfl, rfl⟩)
      | (go_at_call 30; (with_reducible refine (wakes7_any w6).mono ?_); rintro x w7 ⟨rfl, h1⟩; have HC7 := Lib.hid ((HC5.out.tr HC6.out).tr h1); clear h1))
    have HBk := Lib.hid (back7 g c3 B3 q w w7 (HC0.out.tr HC7.out) hg0.out (HAt.out.chg HC7.out id) ((H4.out.new HC4.out).new HC7.out) hql)
    go_wp2_with (go_at_call 38; (with_reducible refine HBk.out.mono ?_); rintro x w8 ⟨rfl, h1, h2⟩; have HC8 := Lib.hid h2; clear h1 h2)
    go_ret
    exact ⟨rfl, HC8.out⟩
end Go.Proofs.Ytaoenbjfkahdjaa
