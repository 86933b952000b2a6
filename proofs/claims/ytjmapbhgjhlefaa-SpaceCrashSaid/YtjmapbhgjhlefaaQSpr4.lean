/- The document's space in memory: Switch. -/
import Derived.Deep.CutBlock
import Derived.Test.YtjmapbhgjhlefaaQ14
import Derived.Test.YtjmapbhgjhlefaaQSpr3
import Derived.Test.YtjmapbhgjhlefaaQRgnZ
namespace Go.Proofs.Ytjmapbhgjhlefaa
open Go.RowKit
set_option linter.unusedVariables false
set_option maxRecDepth 100000

theorem info_rf : (Try.prog.info? 125).map (fun i => (i.zero, i.size, i.bytes)) = some (some (.agg #[.int .i64 0, .int .i64 0, .int .i64 0, .slice none 0 0, .int .i64 0]), 5, 56) := by kernel_rfl
/-- Its frames are a list of so many. -/
def FvOk (f : Rf) : Prop := ∃ A c, f.fv = .slice A f.fr.length c
/-- What stays. -/
def keptR (drop : List Int) (fs : List Rf) : List Rf := (fs.filter fun f => !decide ((f.num : Int) ∈ drop)).map fun f => { f with safe := f.fr.length }
def insRf (f : Rf) (l : List Rf) : List Rf := l.takeWhile (fun g => decide (g.num < f.num)) ++ f :: l.dropWhile (fun g => decide (g.num < f.num))
/-- What is added, one behind the other. -/
def raddX (n : Nat) : List Fi → List (Nat × Nat) → List Rf → Option (List Rf)
  | [], _, ts => some ts
  | x :: l, lie, ts =>
    match placeX n x.blocks 2 (sortF lie) with
    | (_, false) => none
    | (a, true) => raddX n l (lie ++ [(a, x.blocks.toNat)]) (insRf ⟨x.num.toNat, a, x.blocks.toNat, 0, .slice none 0 0, []⟩ ts)
theorem raddX_no {n : Nat} {x : Fi} {l : List Fi} {lie : List (Nat × Nat)} {ts : List Rf} {a : Nat} (h : placeX n x.blocks 2 (sortF lie) = (a, false)) : raddX n (x :: l) lie ts = none := by
  show (match placeX n x.blocks 2 (sortF lie) with | (_, false) => none | (a, true) => _) = none
  rw [h]
theorem raddX_yes {n : Nat} {x : Fi} {l : List Fi} {lie : List (Nat × Nat)} {ts : List Rf} {a : Nat} (h : placeX n x.blocks 2 (sortF lie) = (a, true)) : raddX n (x :: l) lie ts = raddX n l (lie ++ [(a, x.blocks.toNat)]) (insRf ⟨x.num.toNat, a, x.blocks.toNat, 0, .slice none 0 0, []⟩ ts) := by
  show (match placeX n x.blocks 2 (sortF lie) with | (_, false) => none | (a, true) => _) = _
  rw [h]
theorem fi_keep {w : World} {b o : Nat} {l : List Fi} (h : RdV w (some ⟨b, o, none⟩) (l.flatMap fiI)) {k : Nat} (hk : k < l.length) : w.cell? ⟨b, o + k * 3, none⟩ = some (.int .i64 l[k].num) ∧ w.cell? ⟨b, o + k * 3 + 2, none⟩ = some (.int .i64 l[k].blocks) := by
  obtain ⟨b', o', e, h1, _, h2⟩ := fi_get h hk
  injection e with e
  injection e with e1 e2
  subst e1; subst e2
  exact ⟨h1, h2⟩
theorem rf_ones {l : List Rf} (h : ∀ f ∈ l, FvOk f) : ∀ u ∈ l.flatMap rfV, u.oneCell' = true := fun u hu => by
  obtain ⟨f, hf, hu⟩ := List.mem_flatMap.1 hu
  obtain ⟨A, c, e⟩ := h f hf
  unfold rfV at hu
  rw [e] at hu
  simp at hu
  rcases hu with rfl | rfl | rfl | rfl | rfl <;> rfl
theorem rfV_len (l : List Rf) : (l.flatMap rfV).length = l.length * 5 := by
  induction l with
  | nil => rfl
  | cons f l ih => rw [List.flatMap_cons, List.length_append, ih, List.length_cons]; show 5 + _ = _; omega
theorem keptR_take {drop : List Int} {fs : List Rf} {i : Nat} (hi : i < fs.length) : keptR drop (fs.take (i + 1)) = keptR drop (fs.take i) ++ if (fs[i].num : Int) ∈ drop then [] else [{ fs[i] with safe := fs[i].fr.length }] := by
  unfold keptR
  rw [List.take_succ_eq_append_getElem hi, List.filter_append, List.map_append]
  congr 1
  by_cases h : (fs[i].num : Int) ∈ drop
  · rw [if_pos h]; simp [h]
  · rw [if_neg h]; simp [h]
theorem keptR_ok {drop : List Int} {fs : List Rf} (h : ∀ f ∈ fs, FvOk f) : ∀ f ∈ keptR drop fs, FvOk f := fun f hf => by
  unfold keptR at hf
  obtain ⟨g, hg, rfl⟩ := List.mem_map.1 hf
  exact h g (List.mem_filter.1 hg).1
theorem keptR_len {drop : List Int} {fs : List Rf} : (keptR drop fs).length ≤ fs.length := by unfold keptR; rw [List.length_map]; exact List.length_filter_le _ _
theorem insRf_len (f : Rf) (l : List Rf) : (insRf f l).length = l.length + 1 := by
  unfold insRf
  rw [List.length_append, List.length_cons]
  have := congrArg List.length (List.takeWhile_append_dropWhile (p := fun g : Rf => decide (g.num < f.num)) (l := l))
  rw [List.length_append] at this
  omega
theorem insRf_mem {f g : Rf} {l : List Rf} (h : g ∈ insRf f l) : g = f ∨ g ∈ l := by
  unfold insRf at h
  rcases List.mem_append.1 h with h | h
  · exact .inr (List.takeWhile_subset _ h)
  · rcases List.mem_cons.1 h with h | h
    · exact .inl h
    · exact .inr (List.dropWhile_subset _ h)
/-- The place found, one by one. -/
theorem insRf_at {f : Rf} {l : List Rf} {k : Nat} (hk : k ≤ l.length) (h1 : ∀ j (hj : j < l.length), j < k → l[j].num < f.num) (h2 : ∀ hk : k < l.length, ¬ l[k].num < f.num) : insRf f l = l.take k ++ f :: l.drop k := by
  unfold insRf
  have h3 : ∀ (l : List Rf) (k : Nat), k ≤ l.length → (∀ j (hj : j < l.length), j < k → l[j].num < f.num) → (∀ hk : k < l.length, ¬ l[k].num < f.num) → l.takeWhile (fun g => decide (g.num < f.num)) = l.take k ∧ l.dropWhile (fun g => decide (g.num < f.num)) = l.drop k := by
    intro l
    induction l with
    | nil => intro k hk _ _; simp
    | cons g l ih =>
      intro k hk h1 h2
      cases k with
      | zero =>
        have h4 := h2 (by simp)
        simp at h4
        have h5 : decide (g.num < f.num) = false := by simpa using h4
        rw [List.takeWhile_cons, List.dropWhile_cons, h5]
        simp
      | succ k =>
        have h4 := h1 0 (by simp) (by omega)
        simp at h4
        have h5 : decide (g.num < f.num) = true := by simpa using h4
        obtain ⟨i1, i2⟩ := ih k (by simp at hk; omega) (fun j hj hjk => by have := h1 (j + 1) (by simp; omega) (by omega); simpa using this) (fun hk2 => by have := h2 (by simp; omega); simpa using this)
        rw [List.takeWhile_cons, List.dropWhile_cons, h5]
        simp [i1, i2]
  obtain ⟨e1, e2⟩ := h3 l k hk h1 h2
  rw [e1, e2]
theorem rf_tk (l : List Rf) (n : Nat) : (l.take n).flatMap rfV = (l.flatMap rfV).take (n * 5) := by
  induction l generalizing n with
  | nil => simp
  | cons e l ih =>
    cases n with
    | zero => simp
    | succ n =>
      rw [List.take_succ_cons, List.flatMap_cons, List.flatMap_cons, ih, List.take_append]
      have : (rfV e).length = 5 := rfl
      rw [this, List.take_of_length_le (l := rfV e) (by omega), show (n + 1) * 5 - 5 = n * 5 by omega]
theorem rf_dp (l : List Rf) (n : Nat) : (l.drop n).flatMap rfV = (l.flatMap rfV).drop (n * 5) := by
  induction l generalizing n with
  | nil => simp
  | cons e l ih =>
    cases n with
    | zero => simp
    | succ n =>
      rw [List.drop_succ_cons, List.flatMap_cons, ih, List.drop_append]
      have : (rfV e).length = 5 := rfl
      rw [this, List.drop_of_length_le (l := rfV e) (by omega), List.nil_append, show (n + 1) * 5 - 5 = n * 5 by omega]
section
variable {w0 w : World} {F : SP} {r N : Nat} {v : Value} {fs : List Rf} {add : List Fi} {drop : List Int}
theorem Sat.row_two {e : TypeId} {size n c : Nat} {A : Option Addr} {xs : List Value} (h : Sat w0 (Row e size (.slice A n c) n xs * F) w) : (A = none ∧ c = 0 ∧ n = 0) ∨ ∃ g, A = some ⟨g, 0, none⟩ := by
  obtain ⟨_, ⟨e1, e2, _⟩ | ⟨g, cap, cur, e1, _⟩⟩ := h.row_cases
  · injection e1 with e1 e2 e3
    exact .inl ⟨e1, e3, e2⟩
  · injection e1 with e1
    exact .inr ⟨g, e1⟩
/-- What Switch answers. -/
def SwZ (w0 : World) (F : SP) (r N : Nat) (v : Value) (fs : List Rf) (add : List Fi) (drop : List Int) (e : Ending) (w' : World) : Prop :=
  (∃ z : Int, e = .returned (.tuple #[.pointer (some ⟨r, 0, none⟩), .int .i64 z]) ∧ Sat w0 (RSp r N v fs * F) w' ∧
    ((z = 31 ∧ ¬ (GoodA fs drop add ∧ GoodDr fs drop)) ∨ (GoodA fs drop add ∧ GoodDr fs drop ∧ (24 : Int) < (fs.length : Int) + add.length - drop.length ∧ z = 32) ∨
     (GoodA fs drop add ∧ GoodDr fs drop ∧ ¬ (24 : Int) < (fs.length : Int) + add.length - drop.length ∧ raddX N add (fs.map rfLie) (keptR drop fs) = none ∧ z = 33))) ∨
  (∃ t v2 ts, e = .returned (.tuple #[.pointer (some ⟨t, 0, none⟩), .int .i64 0]) ∧ GoodA fs drop add ∧ GoodDr fs drop ∧ ¬ (24 : Int) < (fs.length : Int) + add.length - drop.length ∧
    raddX N add (fs.map rfLie) (keptR drop fs) = some ts ∧ (∀ f ∈ ts, FvOk f) ∧ Sat w0 (RSp t N v2 ts * (RSp r N v fs * F)) w')
set_option maxHeartbeats 8000000 in
theorem rswitch_any (A1 A2 : Option Addr) (c1 c2 : Nat) (h : Sat w0 (RSp r N v fs * F) w) (hN : N ≤ 65536) (hl : fs.length ≤ 24) (hv : ∀ f ∈ fs, FvOk f) (hlie : LieOk N (fs.map rfLie))
    (ha : ∀ W, Sat w0 F W → RdV W A1 (add.flatMap fiI)) (hal : add.length ≤ 30) (hd : ∀ W, Sat w0 F W → RdV W A2 (drop.map fun x => .int .i64 x)) (hdl : drop.length ≤ 30) (hdc : drop.length ≤ c2) :
    Calls Try.prog 35 #[.pointer (some ⟨r, 0, none⟩), .slice A1 add.length c1, .slice A2 drop.length c2] w (SwZ w0 F r N v fs add drop) := by
  obtain ⟨i0, hi0', hz0', hz1', hz2'⟩ := info_parts info_rf
  have hi0 := Lib.hid hi0'; have hz0 := Lib.hid hz0'; have hz1 := Lib.hid hz1'; have hz2 := Lib.hid hz2'
  have HCk := Lib.hid (rcheck_any A1 A2 c1 c2 h (by omega) (ha _ (h.right)) (by omega) (hd _ h.right) (by omega) hdc)
  have HS := Lib.hid h; have HV := Lib.hid hv; have HLie := Lib.hid hlie; have HA := Lib.hid ha; have HD := Lib.hid hd
  have HH : Hid (∀ (W : World) (n : Int), Sat w0 F W → Calls Try.prog 75 #[.slice A2 drop.length c2, .int .i64 n] W fun e w' => e = .returned (.bool (decide (n ∈ drop))) ∧ w' = W) := fun W n hW => (rhas_any A2 c2 drop n _ (hd W hW) (by omega)).mono fun e w' ⟨h1, h2⟩ => ⟨h1, h2.symm⟩
  clear h hv hlie ha hd hi0' hz0' hz1' hz2'
  obtain ⟨Av, cv, rfl, _⟩ := Sat.row_sl (h := (HS.out.of rsp_d).up2)
  go_enter Try.func35, Try.ntmps35
  go_upto_region 2 with (go_at_call 74; (with_reducible refine HCk.out.mono ?_); rintro e wx ⟨z, rfl, hn, hz⟩; have HZ := Lib.hid hz; clear hz; have HS1 : Hid (Sat w0 _ wx) := (show Sat w0 (RSp r N (.slice Av fs.length cv) fs * F) wx by obtain ⟨n, rfl⟩ := hn; exact HS.out.drewN n); clear hn)
  clear HCk HS
  rcases HZ.out with ⟨rfl, hz⟩ | ⟨hga, hgd, hz⟩
  · have HR := Lib.hid hz
    clear hz
    go_wp2_with fail
    go_ret2
    exact .inl ⟨31, rfl, HS1.out, .inl ⟨rfl, HR.out⟩⟩
  have HGA := Lib.hid hga; have HGD := Lib.hid hgd
  clear hga hgd HZ
  by_cases h24 : (24 : Int) < (fs.length : Int) + add.length - drop.length
  · rw [if_pos h24] at hz
    subst hz
    have HR := Lib.hid h24
    clear h24
    go_wp2_with fail
    go_ret2
    exact .inl ⟨32, rfl, HS1.out, .inr (.inl ⟨HGA.out, HGD.out, HR.out, rfl⟩)⟩
  rw [if_neg h24] at hz
  subst hz
  have H24 := Lib.hid h24
  clear h24
  have HLen : Hid ((fs.flatMap rfV).length = fs.length * 5) := rfV_len fs
  have HOn : Hid (∀ u ∈ fs.flatMap rfV, u.oneCell' = true) := rf_ones HV.out
  have q0 : wx.cell? ⟨r, 1, none⟩ = some (.slice Av fs.length cv) := (HS1.out.of rsp_d).cell 1
  go_upto_region 6 with (at_builtin; refine wpList_appS rfl (.tmp 26) (.tmp 30) 63 rfl 125 i0 _ 5 56 Try.underlying63 hi0.out hz0.out hz1.out hz2.out rfl (by decide) (.slice none 0 0) 0 [] rfl w0 _ (by exact HS1.out.row_nil _ 5) Av fs.length cv (fs.flatMap rfV) rfl (by exact HS1.out.rsp_rd) HLen.out HOn.out (by unfold maxLen; omega) (by omega) ?_; intro Aa ca w2 hs; rw [Nat.zero_add, List.nil_append] at hs; rw [Nat.zero_add]; have HS2 := Lib.hid hs; clear hs)
  clear HS1 q0 HLen HOn
  have q0 : w2.cell? ⟨r, 0, none⟩ = some (.int .i64 (N : Int)) := (HS2.out.right.of rsp_d).cell 0
  have hs3 := (HS2.out.allocPt 65 #[.int .i64 (N : Int), .slice none 0 0])
  go_upto_region 7 with fail
  generalize hW : World.alloc w2 _ = w3
  have HS3 : Hid (Sat w0 (Pt w2.heap.size 65 #[.int .i64 (N : Int), .slice none 0 0] * (Row 125 5 (.slice Aa fs.length ca) fs.length (fs.flatMap rfV) * (RSp r N (.slice Av fs.length cv) fs * F))) w3) := by unfold Hid; rw [← hW]; exact hs3
  clear hs3 hW q0 HS2
  revert HS3
  generalize w2.heap.size = t
  intro HS3
  obtain ⟨lie0, hlie0⟩ : ∃ l, l = fs.map rfLie := ⟨_, rfl⟩
  go_wp2_with fail
  go_loopw [11] (fun iv wr => ∃ (i : Nat) (v2 : Value), i ≤ fs.length ∧ iv = .int .i64 (i : Int) ∧ Hid (Sat w0 (RSp t N v2 (keptR drop (fs.take i)) * (Row 125 5 (.slice Aa fs.length ca) fs.length (fs.flatMap rfV) * (RSp r N (.slice Av fs.length cv) fs * F))) wr)) (fun iv _ => fs.length - (intOf iv).toNat)
  case atStart => exact ⟨0, .slice none 0 0, by omega, rfl, (HS3.out.row_nil 125 5).of (by unfold RSp; simp only [List.take_zero]; show _ = (Pt t 65 #[.int .i64 (N : Int), .slice none 0 0] * Row 125 5 (.slice none 0 0) 0 []) * _; ac_rfl)⟩
  case round =>
    obtain ⟨i, v2, hi, rfl, HW⟩ := hrel
    by_cases hlt : i < fs.length
    · have hli : (i : Int) < fs.length := by omega
      obtain ⟨b, o, rfl, q0, q1, q2, q3, q4⟩ := rf_at (HW.out.right.right.rsp_rd) hlt
      have p1 : wr.cell? ⟨r, 1, none⟩ = some (.slice (some ⟨b, o, none⟩) fs.length cv) := (HW.out.right.right.of rsp_d).cell 1
      have HHx := Lib.hid (HH.out wr fs[i].num HW.out.right.right.right)
      have HT : Hid (keptR drop (fs.take (i + 1)) = _) := keptR_take hlt
      have hkl : (keptR drop (fs.take i)).length ≤ i := Nat.le_trans keptR_len (by rw [List.length_take]; omega)
      obtain ⟨Af, cf, ef⟩ := HV.out fs[i] (List.getElem_mem hlt)
      generalize fs[i] = x at *
      rw [ef] at q3
      by_cases hm : (x.num : Int) ∈ drop
      · have h9 : decide ((x.num : Int) ∈ drop) = true := decide_eq_true hm
        rw [h9] at HHx
        rw [if_pos hm, List.append_nil] at HT
        clear hm h9
        go_wp2_with (go_at_call 75; (with_reducible refine HHx.out.mono ?_); rintro e w4 ⟨rfl, rfl⟩)
        go_roundw
        · exact ⟨i + 1, v2, by omega, by go_num, by rw [HT.out]; exact HW.out⟩
        · simp [intOf]; omega
      · have h9 : decide ((x.num : Int) ∈ drop) = false := decide_eq_false hm
        rw [h9] at HHx
        rw [if_neg hm] at HT
        clear hm h9
        obtain ⟨kl, hkl2⟩ : ∃ kl, kl = keptR drop (fs.take i) := ⟨_, rfl⟩
        rw [← hkl2] at HW HT hkl
        clear hkl2
        obtain ⟨xn, hxn⟩ : ∃ n : Nat, n = x.fr.length := ⟨_, rfl⟩
        rw [← hxn] at q3 ef HT
        obtain ⟨x2, hx2⟩ : ∃ x2 : Rf, x2 = { x with safe := xn } := ⟨_, rfl⟩
        have HX2 : Hid (rfV x2 = [.int .i64 (x.num : Int), .int .i64 (x.first : Int), .int .i64 (x.blocks : Int), .slice Af xn cf, .int .i64 (xn : Int)]) := by unfold Hid; rw [hx2]; unfold rfV; simp only; rw [ef]
        rw [← hx2] at HT
        clear hxn hx2 ef
        have hs4 := (HW.out.allocPt 125 #[.int .i64 (x.num : Int), .int .i64 (x.first : Int), .int .i64 (x.blocks : Int), .slice Af xn cf, .int .i64 (xn : Int)])
        have HS4 := Lib.hid hs4
        clear hs4
        go_upto_region 13 with (go_at_call 75; (with_reducible refine HHx.out.mono ?_); rintro e w4 ⟨rfl, rfl⟩)
        generalize hW : World.alloc w4 _ = w5
        have hs5 : Sat w0 (Pt w4.heap.size 125 #[.int .i64 (x.num : Int), .int .i64 (x.first : Int), .int .i64 (x.blocks : Int), .slice Af xn cf, .int .i64 (xn : Int)] * (RSp t N v2 kl * (Row 125 5 (.slice Aa fs.length ca) fs.length (fs.flatMap rfV) * (RSp r N (.slice (some ⟨b, o, none⟩) fs.length cv) fs * F)))) w5 := by rw [← hW]; exact HS4.out
        clear hW HS4 q0 q1 q2 q3 q4 p1 HHx HW
        generalize w4.heap.size = gx at *
        obtain ⟨A2', c2', rfl, _⟩ := Sat.row_sl (h := (hs5.up2.of rsp_d).up2)
        have hs6 : Sat w0 (Row 125 5 (.slice A2' kl.length c2') kl.length (kl.flatMap rfV) * (Pt gx 125 #[.int .i64 (x.num : Int), .int .i64 (x.first : Int), .int .i64 (x.blocks : Int), .slice Af xn cf, .int .i64 (xn : Int)] * (Pt t 65 #[.int .i64 (N : Int), .slice A2' kl.length c2'] * (Row 125 5 (.slice Aa fs.length ca) fs.length (fs.flatMap rfV) * (RSp r N (.slice (some ⟨b, o, none⟩) fs.length cv) fs * F))))) w5 := hs5.of (by
          rw [rsp_d]; ac_rfl)
        have HS6 := Lib.hid hs6
        clear hs5 hs6
        have q0 : w5.cell? ⟨gx, 0, none⟩ = some (.int .i64 (x.num : Int)) := HS6.out.up2.cell 0
        have q1 : w5.cell? ⟨gx, 1, none⟩ = some (.int .i64 (x.first : Int)) := HS6.out.up2.cell 1
        have q2 : w5.cell? ⟨gx, 2, none⟩ = some (.int .i64 (x.blocks : Int)) := HS6.out.up2.cell 2
        have q3 : w5.cell? ⟨gx, 3, none⟩ = some (.slice Af xn cf) := HS6.out.up2.cell 3
        have q4 : w5.cell? ⟨gx, 4, none⟩ = some (.int .i64 (xn : Int)) := HS6.out.up2.cell 4
        have p1 : w5.cell? ⟨t, 1, none⟩ = some (.slice A2' kl.length c2') := HS6.out.up3.cell 1
        have p3 : (w5.alloc (.cells #[.int .i64 (x.num : Int), .int .i64 (x.first : Int), .int .i64 (x.blocks : Int), .slice Af xn cf, .int .i64 (xn : Int)] 125)).cell? ⟨t, 1, none⟩ = some (.slice A2' kl.length c2') := (HS6.out.alloc' _).up3.cell 1
        go_region_law (refine step_appS rfl (.tmp 74) (.tmp 76) 63 rfl 125 i0 _ 5 56 Try.underlying63 hi0.out hz0.out hz1.out hz2.out rfl (by decide) (.slice A2' kl.length c2') kl.length (kl.flatMap rfV) rfl w0 _ (by exact (HS6.out.alloc' _).drew) (some ⟨w5.heap.size, 0, none⟩) 1 1 [.int .i64 (x.num : Int), .int .i64 (x.first : Int), .int .i64 (x.blocks : Int), .slice Af xn cf, .int .i64 (xn : Int)] rfl (by exact (lit_rdv _ _ _)) rfl (by intro u hu; simp at hu; rcases hu with rfl | rfl | rfl | rfl | rfl <;> rfl) (by unfold maxLen; omega) (by omega) ?_; intro A3 c3 w6 hs7; have f1 := hs7.up3.frozen 1; have p2 := hs7.up3.cell 1; have HS7 := Lib.hid hs7; clear hs7)
        all_goals
          have hs8 := HS7.out.up3.set 1 (.slice A3 (kl.length + 1) c3)
          have hs9 : Sat w0 (Pt gx 125 #[.int .i64 (x.num : Int), .int .i64 (x.first : Int), .int .i64 (x.blocks : Int), .slice Af xn cf, .int .i64 (xn : Int)] * (RSp t N (.slice A3 (kl.length + 1) c3) (kl ++ [x2]) * (Row 125 5 (.slice Aa fs.length ca) fs.length (fs.flatMap rfV) * (RSp r N (.slice (some ⟨b, o, none⟩) fs.length cv) fs * F)))) (w6.setCell ⟨t, 1, none⟩ (.slice A3 (kl.length + 1) c3)) := hs8.of (by
            unfold RSp
            rw [List.flatMap_append, List.length_append, List.length_singleton, List.flatMap_cons, List.flatMap_nil, List.append_nil, HX2.out]
            show Pt t 65 #[.int .i64 (N : Int), .slice A3 (kl.length + 1) c3] * _ = _
            ac_rfl)
          have HS9 := Lib.hid hs9.right
          clear hs8 hs9 HS7 HS6
          go_wp2_with fail
          go_roundw
          · exact ⟨i + 1, .slice A3 (kl.length + 1) c3, by omega, by go_num, by rw [HT.out]; exact HS9.out⟩
          · simp [intOf]; omega
    · have hli : ¬ (i : Int) < fs.length := by omega
      have p1 : wr.cell? ⟨r, 1, none⟩ = some (.slice Av fs.length cv) := (HW.out.right.right.of rsp_d).cell 1
      have HW2 : Hid (Sat w0 (RSp t N v2 (keptR drop fs) * (Row 125 5 (.slice Aa fs.length ca) fs.length (fs.flatMap rfV) * (RSp r N (.slice Av fs.length cv) fs * F))) wr) := by have h9 := HW.out; rw [List.take_of_length_le (show fs.length ≤ i by omega)] at h9; exact h9
      clear HW
      have HK0 : Hid (∀ f ∈ keptR drop fs, FvOk f) := keptR_ok HV.out
      have HK1 : Hid ((keptR drop fs).length ≤ 24) := Nat.le_trans keptR_len hl
      have HE0 : Hid (raddX N add lie0 (keptR drop fs) = raddX N (add.drop 0) lie0 (keptR drop fs)) := by unfold Hid; rw [List.drop_zero]
      obtain ⟨k0, hk0⟩ : ∃ k, k = keptR drop fs := ⟨_, rfl⟩
      rw [← hk0] at HW2 HK0 HK1 HE0
      have HK2 := Lib.hid hk0
      have HL0 := Lib.hid hlie0
      clear hk0 hlie0
      go_wp2_with fail
      go_loopw [9, 13] (fun av iv wr => ∃ (i : Nat) (Aa : Option Addr) (ca : Nat) (all : List Rf) (v2 : Value) (ts : List Rf), i ≤ add.length ∧ iv = .int .i64 (i : Int) ∧ av = .slice Aa all.length ca ∧ Hid (all.length ≤ 24 + i ∧ ts.length ≤ 24 + i ∧ (∀ f ∈ all, FvOk f) ∧ (∀ f ∈ ts, FvOk f) ∧ LieOk N (all.map rfLie) ∧ raddX N add lie0 k0 = raddX N (add.drop i) (all.map rfLie) ts ∧
        Sat w0 (RSp t N v2 ts * (Row 125 5 (.slice Aa all.length ca) all.length (all.flatMap rfV) * (RSp r N (.slice Av fs.length cv) fs * F))) wr)) (fun _ iv _ => add.length - (intOf iv).toNat)
      case atStart => exact ⟨0, Aa, ca, fs, v2, k0, by omega, rfl, rfl, by omega, by have := HK1.out; omega, HV.out, HK0.out, HLie.out, by rw [HE0.out, HL0.out], HW2.out⟩
      case round =>
        obtain ⟨i, Aa, ca, all, v2, ts, hi, rfl, rfl, HI⟩ := hrel
        by_cases hlt : i < add.length
        · have hli : (i : Int) < add.length := by omega
          have HW := Lib.hid HI.out.2.2.2.2.2.2
          obtain ⟨ba, oa, rfl, hq⟩ := fi_all (HA.out wr HW.out.right.right.right) (by omega)
          obtain ⟨q0, _, q2⟩ := hq i hlt
          have hxg := (HGA.out.each add[i] (List.getElem_mem hlt)).1
          have HDr : Hid (add.drop i = add[i] :: add.drop (i + 1)) := List.drop_eq_getElem_cons hlt
          have p0 : wr.cell? ⟨r, 0, none⟩ = some (.int .i64 (N : Int)) := (HW.out.right.right.of rsp_d).cell 0
          have HQx : Hid (∀ W, Sat w0 F W → W.cell? ⟨ba, oa + i * 3, none⟩ = some (.int .i64 add[i].num) ∧ W.cell? ⟨ba, oa + i * 3 + 2, none⟩ = some (.int .i64 add[i].blocks)) := fun W hW => fi_keep (HA.out W hW) hlt
          generalize add[i] = x at *
          obtain ⟨x0, x1, x2⟩ := x
          dsimp only at q0 q2 hxg HQx
          clear hq
          by_cases hbig : (N : Int) < x2
          · have HR : Hid (raddX N add lie0 k0 = none) := by
              unfold Hid
              rw [HI.out.2.2.2.2.2.1, HDr.out]
              have h9 := place_big (b := x2) hbig HI.out.2.2.2.2.1
              exact raddX_no (a := (placeX N x2 2 (sortF (all.map rfLie))).1) (by show placeX N x2 2 _ = _; rw [← h9])
            go_wp2_with fail
            go_quiet (fail)
            go_wp2_with fail
            go_ret2
            exact .inl ⟨33, rfl, HW.out.right.right.drewN _, .inr (.inr ⟨HGA.out, HGD.out, Int.not_lt.2 H24.out, by rw [← HK2.out, ← HL0.out]; exact HR.out, rfl⟩)⟩
          · obtain ⟨bl, rfl⟩ : ∃ bl : Nat, x2 = (bl : Int) := ⟨x2.toNat, by omega⟩
            obtain ⟨xm, rfl⟩ : ∃ xm : Nat, x0 = (xm : Int) := ⟨x0.toNat, by omega⟩
            have hbl : 1 ≤ bl ∧ bl ≤ N := by omega
            have HPl : Hid (∀ m : Nat, _) := fun m : Nat => rplace_any (r := r) (N := N) (v := .slice Av fs.length cv) (fs := fs) Aa ca all bl (w0 := w0) (w := wr.drewN m) (F := _) ((HW.out.drewN m).of (show _ = RSp r N (.slice Av fs.length cv) fs * (RSp t N v2 ts * (Row 125 5 (.slice Aa all.length ca) all.length (all.flatMap rfV) * F)) by ac_rfl)) hN hbl (((HW.out.drewN m).right).row_rdvX) (by have := HI.out.1; omega) (fun f hf => by have := (HI.out.2.2.2.2.1.each (rfLie f) (List.mem_map_of_mem hf)).2.2; unfold rfLie at this; simp only at this; omega)
            have hbig2 : (bl : Int) ≤ (N : Int) := by omega
            go_wp2_with fail
            go_quiet (fail)
            go_upto_region 20 with (go_at_call 76; (with_reducible refine (HPl.out _).mono ?_); rintro e w4 ⟨z, rfl, hn4, hz⟩; have HS4 : Hid (Sat w0 _ w4) := (show Sat w0 (RSp t N v2 ts * (Row 125 5 (.slice Aa all.length ca) all.length (all.flatMap rfV) * (RSp r N (.slice Av fs.length cv) fs * F))) w4 by obtain ⟨n4, rfl⟩ := hn4; exact (HW.out.drewN _).drewN _); clear hn4)
            rcases hz with ⟨k, hkN, hk1, hk2, rfl⟩ | ⟨rfl, hno⟩
            · obtain ⟨a, ha⟩ : ∃ a, a = 2 + k + 1 - bl := ⟨_, rfl⟩
              have HPo : Hid (placeX N (bl : Int) 2 (sortF (all.map rfLie)) = (a, true)) := by unfold Hid; rw [ha]; exact placeR_found hbl.1 HI.out.2.2.2.2.1 hkN hk1 hk2
              rw [← ha]
              clear ha hkN hk1 hk2
              obtain ⟨f, hf⟩ : ∃ f : Rf, f = ⟨xm, a, bl, 0, .slice none 0 0, []⟩ := ⟨_, rfl⟩
              have HFv : Hid (rfV f = [.int .i64 (xm : Int), .int .i64 (a : Int), .int .i64 (bl : Int), .slice none 0 0, .int .i64 0]) := by unfold Hid; rw [hf]; rfl
              have HFl : Hid (rfLie f = (a, bl)) := by unfold Hid; rw [hf]; rfl
              have HFn : Hid (f.num = xm) := by unfold Hid; rw [hf]
              have HFo : Hid (FvOk f) := by unfold Hid; rw [hf]; exact ⟨none, 0, rfl⟩
              have HX1 : Hid (raddX N add lie0 k0 = raddX N (add.drop (i + 1)) ((all ++ [f]).map rfLie) (insRf f ts)) := by
                unfold Hid
                rw [HI.out.2.2.2.2.2.1, HDr.out, raddX_yes (x := ⟨(xm : Int), x1, (bl : Int)⟩) HPo.out, List.map_append, List.map_singleton, HFl.out, hf]
                simp only [Int.toNat_natCast]
              have HLk : Hid (LieOk N ((all ++ [f]).map rfLie)) := by
                unfold Hid
                rw [List.map_append, List.map_singleton, HFl.out]
                obtain ⟨p1, p2⟩ := place_sort (bl := (bl : Int)) (by omega) HI.out.2.2.2.2.1
                rw [HPo.out] at p1
                have h9 := HI.out.2.2.2.2.1.snoc (bl := (bl : Int)) (by omega) (p1 rfl).1 (p1 rfl).2
                rw [Int.toNat_natCast] at h9
                exact h9
              have HAl := Lib.hid HI.out.1; have HTl := Lib.hid HI.out.2.1; have HAv := Lib.hid HI.out.2.2.1; have HTv := Lib.hid HI.out.2.2.2.1
              have HQ : Hid (∀ W, Sat w0 F W → W.cell? ⟨ba, oa + i * 3, none⟩ = some (.int .i64 (xm : Int)) ∧ W.cell? ⟨ba, oa + i * 3 + 2, none⟩ = some (.int .i64 (bl : Int))) := HQx.out
              clear hf HPl HW HI HPo q0 q2 p0 hxg HQx HDr
              go_upto_region 22 with fail
              refine wp_region_held_drew (S := fun w' => w'.cell? ⟨ba, oa + i * 3, none⟩ = some (.int .i64 (xm : Int)) ∧ w'.cell? ⟨ba, oa + i * 3 + 2, none⟩ = some (.int .i64 (bl : Int))) (by kernel_rfl) (HQ.out _ HS4.out.right.right.right.drew) ?_
              intro hS0
              refine rgn_take (i := 0) (v := ?rv1) rfl (by kernel_rfl) (by kernel_rfl) (by kernel_rfl) (fun _ _ _ h => h) (by rfl) ?rh1 (by assumption) ?rr1
              case rh1 => (intro w hSw; (try dsimp only at hSw); go_simp; try with_reducible rfl)
              simp only [Act.put, List.setIfInBounds_toArray, List.set_cons_zero, List.set_cons_succ]
              refine rgn_take (i := 1) (v := ?rv2) rfl (by kernel_rfl) (by kernel_rfl) (by kernel_rfl) (fun _ _ _ h => h) (by rfl) ?rh2 (by assumption) ?rr2
              case rh2 => (intro w hSw; (try dsimp only at hSw); go_simp; try with_reducible rfl)
              simp only [Act.put, List.setIfInBounds_toArray, List.set_cons_zero, List.set_cons_succ]
              refine rgn_take (i := 2) (v := ?rv3) rfl (by kernel_rfl) (by kernel_rfl) (by kernel_rfl) (fun _ _ _ h => h) (by rfl) ?rh3 (by assumption) ?rr3
              case rh3 => (intro w hSw; (try dsimp only at hSw); go_simp; try with_reducible rfl)
              simp only [Act.put, List.setIfInBounds_toArray, List.set_cons_zero, List.set_cons_succ]
              refine rgn_take (i := 3) (v := ?rv4) rfl (by kernel_rfl) (by kernel_rfl) (by kernel_rfl) (fun _ _ _ h => h) (by rfl) ?rh4 (by assumption) ?rr4
              case rh4 => (intro w hSw; (try dsimp only at hSw); go_simp; try with_reducible rfl)
              simp only [Act.put, List.setIfInBounds_toArray, List.set_cons_zero, List.set_cons_succ]
              refine rgn_take (i := 4) (v := ?rv5) rfl (by kernel_rfl) (by kernel_rfl) (by kernel_rfl) (fun _ _ _ h => h) (by rfl) ?rh5 (by assumption) ?rr5
              case rh5 => (intro w hSw; (try dsimp only at hSw); go_simp; try with_reducible rfl)
              simp only [Act.put, List.setIfInBounds_toArray, List.set_cons_zero, List.set_cons_succ]
              refine rgn_take (i := 5) (v := ?rv6) rfl (by kernel_rfl) (by kernel_rfl) (by kernel_rfl) (fun _ _ _ h => h) (by rfl) ?rh6 (by assumption) ?rr6
              case rh6 => (intro w hSw; (try dsimp only at hSw); go_simp; try with_reducible rfl)
              simp only [Act.put, List.setIfInBounds_toArray, List.set_cons_zero, List.set_cons_succ]
              refine rgn_take (i := 6) (v := ?rv7) rfl (by kernel_rfl) (by kernel_rfl) (by kernel_rfl) (fun _ _ _ h => h) (by rfl) ?rh7 (by assumption) ?rr7
              case rh7 => (intro w hSw; (try dsimp only at hSw); go_simp; try with_reducible rfl)
              simp only [Act.put, List.setIfInBounds_toArray, List.set_cons_zero, List.set_cons_succ]
              refine rgn_take (i := 7) (v := ?rv8) rfl (by kernel_rfl) (by kernel_rfl) (by kernel_rfl) (fun _ _ _ h => h) (by rfl) ?rh8 (by assumption) ?rr8
              case rh8 => (intro w hSw; (try dsimp only at hSw); go_simp; try with_reducible rfl)
              simp only [Act.put, List.setIfInBounds_toArray, List.set_cons_zero, List.set_cons_succ]
              refine rgn_take (i := 8) (v := ?rv9) rfl (by kernel_rfl) (by kernel_rfl) (by kernel_rfl) (fun _ _ _ h => h) (by rfl) ?rh9 (by assumption) ?rr9
              case rh9 => (intro w hSw; (try dsimp only at hSw); go_simp; try with_reducible rfl)
              simp only [Act.put, List.setIfInBounds_toArray, List.set_cons_zero, List.set_cons_succ]
              refine rgn_take (i := 9) (v := ?rv10) rfl (by kernel_rfl) (by kernel_rfl) (by kernel_rfl) (fun _ _ _ h => h) (by rfl) ?rh10 (by assumption) ?rr10
              case rh10 => (intro w hSw; (try dsimp only at hSw); go_simp; try with_reducible rfl)
              simp only [Act.put, List.setIfInBounds_toArray, List.set_cons_zero, List.set_cons_succ]
              refine rgn_take (i := 10) (v := ?rv11) rfl (by kernel_rfl) (by kernel_rfl) (by kernel_rfl) (fun _ _ _ h => h) (by rfl) ?rh11 (by assumption) ?rr11
              case rh11 => (intro w hSw; (try dsimp only at hSw); go_simp; try with_reducible rfl)
              simp only [Act.put, List.setIfInBounds_toArray, List.set_cons_zero, List.set_cons_succ]
              refine rgn_take (i := 11) (v := ?rv12) rfl (by kernel_rfl) (by kernel_rfl) (by kernel_rfl) (fun _ _ _ h => h) (by rfl) ?rh12 (by assumption) ?rr12
              case rh12 => (intro w hSw; (try dsimp only at hSw); go_simp; try with_reducible rfl)
              simp only [Act.put, List.setIfInBounds_toArray, List.set_cons_zero, List.set_cons_succ]
              refine rgn_take (i := 12) (v := ?rv13) rfl (by kernel_rfl) (by kernel_rfl) (by kernel_rfl) (fun _ _ _ h => h) (by rfl) ?rh13 (by assumption) ?rr13
              case rh13 => (intro w hSw; (try dsimp only at hSw); go_simp; try with_reducible rfl)
              simp only [Act.put, List.setIfInBounds_toArray, List.set_cons_zero, List.set_cons_succ]
              refine rgn_call (i := 13) rfl (by kernel_rfl) (fun K hK => ?_)
              go_simp
              have hs := (HS4.out.allocPt 125 #[.int .i64 0, .int .i64 0, .int .i64 0, .slice none 0 0, .int .i64 0]).drew; revert hs; generalize World.drew (World.alloc w4 _) = w5; generalize w4.heap.size = gf; intro hs; have HS5 := Lib.hid hs; have e0 : w5.cell? ⟨gf, 0, none⟩ = some (.int .i64 0) := hs.cell 0; have f0 := hs.frozen 0; have e1 : w5.cell? ⟨gf, 1, none⟩ = some (.int .i64 0) := hs.cell 1; have f1 := hs.frozen 1; have e2 : w5.cell? ⟨gf, 2, none⟩ = some (.int .i64 0) := hs.cell 2; have f2 := hs.frozen 2; have e3 : w5.cell? ⟨gf, 3, none⟩ = some (.slice none 0 0) := hs.cell 3; have f3 := hs.frozen 3; have e4 : w5.cell? ⟨gf, 4, none⟩ = some (.int .i64 0) := hs.cell 4; have f4 := hs.frozen 4; clear hs
              refine hK.out _ _ (HQ.out _ HS5.out.right.right.right.right) (fun hS0 => ?_)
              clear hK K
              refine rgn_call (i := 14) rfl (by kernel_rfl) (fun K hK => ?_)
              go_simp
              have hs := ((((HS5.out.set 0 (.int .i64 (xm : Int))).set 1 (.int .i64 (a : Int))).set 2 (.int .i64 (bl : Int))).set 3 (.slice none 0 0)).set 4 (.int .i64 0); revert hs; generalize World.setCell _ _ _ = w6; intro hs; have HS6 := Lib.hid hs; clear hs e0 e1 e2 e3 e4 f0 f1 f2 f3 f4
              refine hK.out _ _ (HQ.out _ HS6.out.right.right.right.right) (fun hS0 => ?_)
              clear hK K
              refine wpAnyH_done (by kernel_rfl) ?_ _
              have HS7 := Lib.hid (HS6.out.of (show _ = Row 125 5 (.slice Aa all.length ca) all.length (all.flatMap rfV) * (Pt gf 125 #[.int .i64 (xm : Int), .int .i64 (a : Int), .int .i64 (bl : Int), .slice none 0 0, .int .i64 0] * (RSp t N v2 ts * (RSp r N (.slice Av fs.length cv) fs * F))) by ac_rfl))
              clear HS6
              have z0 : w6.cell? ⟨gf, 0, none⟩ = some (.int .i64 (xm : Int)) := HS7.out.up2.cell 0
              have z1 : w6.cell? ⟨gf, 1, none⟩ = some (.int .i64 (a : Int)) := HS7.out.up2.cell 1
              have z2 : w6.cell? ⟨gf, 2, none⟩ = some (.int .i64 (bl : Int)) := HS7.out.up2.cell 2
              have z3 : w6.cell? ⟨gf, 3, none⟩ = some (.slice none 0 0) := HS7.out.up2.cell 3
              have z4 : w6.cell? ⟨gf, 4, none⟩ = some (.int .i64 0) := HS7.out.up2.cell 4
              have hall : all.length ≤ 54 := by have := HAl.out; omega
              have htl : ts.length ≤ 54 := by have := HTl.out; omega
              go_upto_region 24 with (at_builtin; refine wpList_appS rfl (.tmp 121) (.tmp 123) 63 rfl 125 i0 _ 5 56 Try.underlying63 hi0.out hz0.out hz1.out hz2.out rfl (by decide) (.slice Aa all.length ca) all.length (all.flatMap rfV) rfl w0 _ (by exact HS7.out.alloc' _) (some ⟨w6.heap.size, 0, none⟩) 1 1 [.int .i64 (xm : Int), .int .i64 (a : Int), .int .i64 (bl : Int), .slice none 0 0, .int .i64 0] rfl (lit_rdv _ _ _) rfl (by intro u hu; simp at hu; rcases hu with rfl | rfl | rfl | rfl | rfl <;> rfl) (by unfold maxLen; omega) (by omega) ?_; intro A7 c7 w7 hs; have HS8 := Lib.hid hs; clear hs)
              clear z0 z1 z2 z3 z4 HS7
              obtain ⟨At, ct, rfl, hct⟩ := Sat.row_sl (h := (HS8.out.up3.of rsp_d).up2)
              have hct1 := hct.1; have hct2 := hct.2
              go_upto_block 4 with fail
              go_cut [16] (fun kv wx => ∃ (k n : Nat), k ≤ ts.length ∧ kv = .int .i64 (k : Int) ∧ wx = w7.drewN n ∧ Hid (insRf f ts = ts.take k ++ f :: ts.drop k))
              case first =>
                go_wp2_with fail
                go_loopw [16] (fun kv wr => ∃ (k n : Nat), k ≤ ts.length ∧ kv = .int .i64 (k : Int) ∧ wr = w7.drewN n ∧ Hid (∀ j (hj : j < ts.length), j < k → ts[j].num < xm)) (fun kv _ => ts.length - (intOf kv).toNat)
                case atStart => exact ⟨0, 0, by omega, rfl, rfl, fun j hj h => absurd h (by omega)⟩
                case round =>
                  obtain ⟨k, n, hk, rfl, rfl, HK⟩ := hrel
                  have p1 : (w7.drewN n).cell? ⟨t, 1, none⟩ = some (.slice At ts.length ct) := ((HS8.out.up3.drewN n).of rsp_d).cell 1
                  have z0 : (w7.drewN n).cell? ⟨gf, 0, none⟩ = some (.int .i64 (xm : Int)) := (HS8.out.up2.drewN n).cell 0
                  by_cases hlt : k < ts.length
                  · obtain ⟨bt, ot, rfl, q0, _⟩ := rf_at ((HS8.out.up3.drewN n).rsp_rd) hlt
                    have hli : (k : Int) < ts.length := by omega
                    by_cases hn : ts[k].num < xm
                    · have HKn : Hid (∀ j (hj : j < ts.length), j < k + 1 → ts[j].num < xm) := fun j hj h => by
                        by_cases e : j = k
                        · subst e; exact hn
                        · exact HK.out j hj (by omega)
                      generalize ts[k].num = y at q0 hn
                      have hn2 : (y : Int) < (xm : Int) := by omega
                      go_upto_region 25 with fail
                      refine wp_region_held_drew (S := fun w' => w'.cell? ⟨t, 1, none⟩ = some (.slice (some ⟨bt, ot, none⟩) ts.length ct) ∧ w'.cell? ⟨bt, ot + k * 5, none⟩ = some (.int .i64 (y : Int)) ∧ w'.cell? ⟨gf, 0, none⟩ = some (.int .i64 (xm : Int))) (by kernel_rfl) ⟨p1, q0, z0⟩ ?_
                      intro hS0
                      refine rgn_take (i := 0) (v := ?rv16) rfl (by kernel_rfl) (by kernel_rfl) (by kernel_rfl) (fun _ _ _ h => h) (by rfl) ?rh16 (by assumption) ?rr16
                      case rh16 => (intro w hSw; (try dsimp only at hSw); go_simp; try with_reducible rfl)
                      simp only [Act.put, List.setIfInBounds_toArray, List.set_cons_zero, List.set_cons_succ]
                      refine rgn_take (i := 1) (v := ?rv17) rfl (by kernel_rfl) (by kernel_rfl) (by kernel_rfl) (fun _ _ _ h => h) (by rfl) ?rh17 (by assumption) ?rr17
                      case rh17 => (intro w hSw; (try dsimp only at hSw); go_simp; try with_reducible rfl)
                      simp only [Act.put, List.setIfInBounds_toArray, List.set_cons_zero, List.set_cons_succ]
                      refine rgn_take (i := 2) (v := ?rv18) rfl (by kernel_rfl) (by kernel_rfl) (by kernel_rfl) (fun _ _ _ h => h) (by rfl) ?rh18 (by assumption) ?rr18
                      case rh18 => (intro w hSw; (try dsimp only at hSw); go_simp; try with_reducible rfl)
                      simp only [Act.put, List.setIfInBounds_toArray, List.set_cons_zero, List.set_cons_succ]
                      refine rgn_take (i := 3) (v := ?rv19) rfl (by kernel_rfl) (by kernel_rfl) (by kernel_rfl) (fun _ _ _ h => h) (by rfl) ?rh19 (by assumption) ?rr19
                      case rh19 => (intro w hSw; (try dsimp only at hSw); go_simp; try with_reducible rfl)
                      simp only [Act.put, List.setIfInBounds_toArray, List.set_cons_zero, List.set_cons_succ]
                      refine rgn_take (i := 4) (v := ?rv20) rfl (by kernel_rfl) (by kernel_rfl) (by kernel_rfl) (fun _ _ _ h => h) (by rfl) ?rh20 (by assumption) ?rr20
                      case rh20 => (intro w hSw; (try dsimp only at hSw); go_simp; try with_reducible rfl)
                      simp only [Act.put, List.setIfInBounds_toArray, List.set_cons_zero, List.set_cons_succ]
                      refine rgn_take (i := 5) (v := ?rv21) rfl (by kernel_rfl) (by kernel_rfl) (by kernel_rfl) (fun _ _ _ h => h) (by rfl) ?rh21 (by assumption) ?rr21
                      case rh21 => (intro w hSw; (try dsimp only at hSw); go_simp; try with_reducible rfl)
                      simp only [Act.put, List.setIfInBounds_toArray, List.set_cons_zero, List.set_cons_succ]
                      refine rgn_take (i := 6) (v := ?rv22) rfl (by kernel_rfl) (by kernel_rfl) (by kernel_rfl) (fun _ _ _ h => h) (by rfl) ?rh22 (by assumption) ?rr22
                      case rh22 => (intro w hSw; (try dsimp only at hSw); go_simp; try with_reducible rfl)
                      simp only [Act.put, List.setIfInBounds_toArray, List.set_cons_zero, List.set_cons_succ]
                      refine rgn_take (i := 7) (v := ?rv23) rfl (by kernel_rfl) (by kernel_rfl) (by kernel_rfl) (fun _ _ _ h => h) (by rfl) ?rh23 (by assumption) ?rr23
                      case rh23 => (intro w hSw; (try dsimp only at hSw); go_simp; try with_reducible rfl)
                      simp only [Act.put, List.setIfInBounds_toArray, List.set_cons_zero, List.set_cons_succ]
                      refine rgn_take (i := 8) (v := ?rv24) rfl (by kernel_rfl) (by kernel_rfl) (by kernel_rfl) (fun _ _ _ h => h) (by rfl) ?rh24 (by assumption) ?rr24
                      case rh24 => (intro w hSw; (try dsimp only at hSw); go_simp; try with_reducible rfl)
                      simp only [Act.put, List.setIfInBounds_toArray, List.set_cons_zero, List.set_cons_succ]
                      refine rgn_take (i := 9) (v := ?rv25) rfl (by kernel_rfl) (by kernel_rfl) (by kernel_rfl) (fun _ _ _ h => h) (by rfl) ?rh25 (by assumption) ?rr25
                      case rh25 => (intro w hSw; (try dsimp only at hSw); go_simp; try with_reducible rfl)
                      simp only [Act.put, List.setIfInBounds_toArray, List.set_cons_zero, List.set_cons_succ]
                      refine rgn_take (i := 10) (v := ?rv26) rfl (by kernel_rfl) (by kernel_rfl) (by kernel_rfl) (fun _ _ _ h => h) (by rfl) ?rh26 (by assumption) ?rr26
                      case rh26 => (intro w hSw; (try dsimp only at hSw); go_simp; try with_reducible rfl)
                      simp only [Act.put, List.setIfInBounds_toArray, List.set_cons_zero, List.set_cons_succ]
                      refine rgn_take (i := 11) (v := ?rv27) rfl (by kernel_rfl) (by kernel_rfl) (by kernel_rfl) (fun _ _ _ h => h) (by rfl) ?rh27 (by assumption) ?rr27
                      case rh27 => (intro w hSw; (try dsimp only at hSw); go_simp; try with_reducible rfl)
                      simp only [Act.put, List.setIfInBounds_toArray, List.set_cons_zero, List.set_cons_succ]
                      refine rgn_take (i := 12) (v := ?rv28) rfl (by kernel_rfl) (by kernel_rfl) (by kernel_rfl) (fun _ _ _ h => h) (by rfl) ?rh28 (by assumption) ?rr28
                      case rh28 => (intro w hSw; (try dsimp only at hSw); go_simp; try with_reducible rfl)
                      simp only [Act.put, List.setIfInBounds_toArray, List.set_cons_zero, List.set_cons_succ]
                      refine rgn_take (i := 13) (v := ?rv29) rfl (by kernel_rfl) (by kernel_rfl) (by kernel_rfl) (fun _ _ _ h => h) (by rfl) ?rh29 (by assumption) ?rr29
                      case rh29 => (intro w hSw; (try dsimp only at hSw); go_simp; try with_reducible rfl)
                      simp only [Act.put, List.setIfInBounds_toArray, List.set_cons_zero, List.set_cons_succ]
                      refine rgn_take (i := 14) (v := ?rv30) rfl (by kernel_rfl) (by kernel_rfl) (by kernel_rfl) (fun _ _ _ h => h) (by rfl) ?rh30 (by assumption) ?rr30
                      case rh30 => (intro w hSw; (try dsimp only at hSw); go_simp; try with_reducible rfl)
                      simp only [Act.put, List.setIfInBounds_toArray, List.set_cons_zero, List.set_cons_succ]
                      refine rgn_take (i := 15) (v := ?rv31) rfl (by kernel_rfl) (by kernel_rfl) (by kernel_rfl) (fun _ _ _ h => h) (by rfl) ?rh31 (by assumption) ?rr31
                      case rh31 => (intro w hSw; (try dsimp only at hSw); go_simp; try with_reducible rfl)
                      simp only [Act.put, List.setIfInBounds_toArray, List.set_cons_zero, List.set_cons_succ]
                      refine rgn_take (i := 16) (v := ?rv32) rfl (by kernel_rfl) (by kernel_rfl) (by kernel_rfl) (fun _ _ _ h => h) (by rfl) ?rh32 (by assumption) ?rr32
                      case rh32 => (intro w hSw; (try dsimp only at hSw); go_simp; try with_reducible rfl)
                      simp only [Act.put, List.setIfInBounds_toArray, List.set_cons_zero, List.set_cons_succ]
                      refine rgn_take (i := 17) (v := ?rv33) rfl (by kernel_rfl) (by kernel_rfl) (by kernel_rfl) (fun _ _ _ h => h) (by rfl) ?rh33 (by assumption) ?rr33
                      case rh33 => (intro w hSw; (try dsimp only at hSw); go_simp; try with_reducible rfl)
                      simp only [Act.put, List.setIfInBounds_toArray, List.set_cons_zero, List.set_cons_succ]
                      refine rgn_take (i := 18) (v := ?rv34) rfl (by kernel_rfl) (by kernel_rfl) (by kernel_rfl) (fun _ _ _ h => h) (by rfl) ?rh34 (by assumption) ?rr34
                      case rh34 => (intro w hSw; (try dsimp only at hSw); go_simp; try with_reducible rfl)
                      simp only [Act.put, List.setIfInBounds_toArray, List.set_cons_zero, List.set_cons_succ]
                      refine rgn_take (i := 19) (v := ?rv35) rfl (by kernel_rfl) (by kernel_rfl) (by kernel_rfl) (fun _ _ _ h => h) (by rfl) ?rh35 (by assumption) ?rr35
                      case rh35 => (intro w hSw; (try dsimp only at hSw); go_simp; try with_reducible rfl)
                      simp only [Act.put, List.setIfInBounds_toArray, List.set_cons_zero, List.set_cons_succ]
                      refine rgn_take (i := 20) (v := ?rv36) rfl (by kernel_rfl) (by kernel_rfl) (by kernel_rfl) (fun _ _ _ h => h) (by rfl) ?rh36 (by assumption) ?rr36
                      case rh36 => (intro w hSw; (try dsimp only at hSw); go_simp; try with_reducible rfl)
                      simp only [Act.put, List.setIfInBounds_toArray, List.set_cons_zero, List.set_cons_succ]
                      refine rgn_take (i := 21) (v := ?rv37) rfl (by kernel_rfl) (by kernel_rfl) (by kernel_rfl) (fun _ _ _ h => h) (by rfl) ?rh37 (by assumption) ?rr37
                      case rh37 => (intro w hSw; (try dsimp only at hSw); go_simp; try with_reducible rfl)
                      simp only [Act.put, List.setIfInBounds_toArray, List.set_cons_zero, List.set_cons_succ]
                      refine wpAnyH_done (by kernel_rfl) ?_ _
                      go_wp2_with fail
                      go_roundw
                      · exact ⟨k + 1, _, by omega, by go_num, rfl, HKn.out⟩
                      · simp [intOf]; omega
                    · have HI2 : Hid (insRf f ts = ts.take k ++ f :: ts.drop k) := insRf_at (by omega) (fun j hj h => by rw [HFn.out]; exact HK.out j hj h) (fun _ => by rw [HFn.out]; exact hn)
                      generalize ts[k].num = y at q0 hn
                      have hn2 : ¬ (y : Int) < (xm : Int) := by omega
                      go_upto_region 25 with fail
                      refine wp_region_held_drew (S := fun w' => w'.cell? ⟨t, 1, none⟩ = some (.slice (some ⟨bt, ot, none⟩) ts.length ct) ∧ w'.cell? ⟨bt, ot + k * 5, none⟩ = some (.int .i64 (y : Int)) ∧ w'.cell? ⟨gf, 0, none⟩ = some (.int .i64 (xm : Int))) (by kernel_rfl) ⟨p1, q0, z0⟩ ?_
                      intro hS0
                      refine rgn_take (i := 0) (v := ?rv38) rfl (by kernel_rfl) (by kernel_rfl) (by kernel_rfl) (fun _ _ _ h => h) (by rfl) ?rh38 (by assumption) ?rr38
                      case rh38 => (intro w hSw; (try dsimp only at hSw); go_simp; try with_reducible rfl)
                      simp only [Act.put, List.setIfInBounds_toArray, List.set_cons_zero, List.set_cons_succ]
                      refine rgn_take (i := 1) (v := ?rv39) rfl (by kernel_rfl) (by kernel_rfl) (by kernel_rfl) (fun _ _ _ h => h) (by rfl) ?rh39 (by assumption) ?rr39
                      case rh39 => (intro w hSw; (try dsimp only at hSw); go_simp; try with_reducible rfl)
                      simp only [Act.put, List.setIfInBounds_toArray, List.set_cons_zero, List.set_cons_succ]
                      refine rgn_take (i := 2) (v := ?rv40) rfl (by kernel_rfl) (by kernel_rfl) (by kernel_rfl) (fun _ _ _ h => h) (by rfl) ?rh40 (by assumption) ?rr40
                      case rh40 => (intro w hSw; (try dsimp only at hSw); go_simp; try with_reducible rfl)
                      simp only [Act.put, List.setIfInBounds_toArray, List.set_cons_zero, List.set_cons_succ]
                      refine rgn_take (i := 3) (v := ?rv41) rfl (by kernel_rfl) (by kernel_rfl) (by kernel_rfl) (fun _ _ _ h => h) (by rfl) ?rh41 (by assumption) ?rr41
                      case rh41 => (intro w hSw; (try dsimp only at hSw); go_simp; try with_reducible rfl)
                      simp only [Act.put, List.setIfInBounds_toArray, List.set_cons_zero, List.set_cons_succ]
                      refine rgn_take (i := 4) (v := ?rv42) rfl (by kernel_rfl) (by kernel_rfl) (by kernel_rfl) (fun _ _ _ h => h) (by rfl) ?rh42 (by assumption) ?rr42
                      case rh42 => (intro w hSw; (try dsimp only at hSw); go_simp; try with_reducible rfl)
                      simp only [Act.put, List.setIfInBounds_toArray, List.set_cons_zero, List.set_cons_succ]
                      refine rgn_take (i := 5) (v := ?rv43) rfl (by kernel_rfl) (by kernel_rfl) (by kernel_rfl) (fun _ _ _ h => h) (by rfl) ?rh43 (by assumption) ?rr43
                      case rh43 => (intro w hSw; (try dsimp only at hSw); go_simp; try with_reducible rfl)
                      simp only [Act.put, List.setIfInBounds_toArray, List.set_cons_zero, List.set_cons_succ]
                      refine rgn_take (i := 6) (v := ?rv44) rfl (by kernel_rfl) (by kernel_rfl) (by kernel_rfl) (fun _ _ _ h => h) (by rfl) ?rh44 (by assumption) ?rr44
                      case rh44 => (intro w hSw; (try dsimp only at hSw); go_simp; try with_reducible rfl)
                      simp only [Act.put, List.setIfInBounds_toArray, List.set_cons_zero, List.set_cons_succ]
                      refine rgn_take (i := 7) (v := ?rv45) rfl (by kernel_rfl) (by kernel_rfl) (by kernel_rfl) (fun _ _ _ h => h) (by rfl) ?rh45 (by assumption) ?rr45
                      case rh45 => (intro w hSw; (try dsimp only at hSw); go_simp; try with_reducible rfl)
                      simp only [Act.put, List.setIfInBounds_toArray, List.set_cons_zero, List.set_cons_succ]
                      refine rgn_take (i := 8) (v := ?rv46) rfl (by kernel_rfl) (by kernel_rfl) (by kernel_rfl) (fun _ _ _ h => h) (by rfl) ?rh46 (by assumption) ?rr46
                      case rh46 => (intro w hSw; (try dsimp only at hSw); go_simp; try with_reducible rfl)
                      simp only [Act.put, List.setIfInBounds_toArray, List.set_cons_zero, List.set_cons_succ]
                      refine rgn_take (i := 9) (v := ?rv47) rfl (by kernel_rfl) (by kernel_rfl) (by kernel_rfl) (fun _ _ _ h => h) (by rfl) ?rh47 (by assumption) ?rr47
                      case rh47 => (intro w hSw; (try dsimp only at hSw); go_simp; try with_reducible rfl)
                      simp only [Act.put, List.setIfInBounds_toArray, List.set_cons_zero, List.set_cons_succ]
                      refine rgn_take (i := 10) (v := ?rv48) rfl (by kernel_rfl) (by kernel_rfl) (by kernel_rfl) (fun _ _ _ h => h) (by rfl) ?rh48 (by assumption) ?rr48
                      case rh48 => (intro w hSw; (try dsimp only at hSw); go_simp; try with_reducible rfl)
                      simp only [Act.put, List.setIfInBounds_toArray, List.set_cons_zero, List.set_cons_succ]
                      refine rgn_take (i := 11) (v := ?rv49) rfl (by kernel_rfl) (by kernel_rfl) (by kernel_rfl) (fun _ _ _ h => h) (by rfl) ?rh49 (by assumption) ?rr49
                      case rh49 => (intro w hSw; (try dsimp only at hSw); go_simp; try with_reducible rfl)
                      simp only [Act.put, List.setIfInBounds_toArray, List.set_cons_zero, List.set_cons_succ]
                      refine rgn_take (i := 12) (v := ?rv50) rfl (by kernel_rfl) (by kernel_rfl) (by kernel_rfl) (fun _ _ _ h => h) (by rfl) ?rh50 (by assumption) ?rr50
                      case rh50 => (intro w hSw; (try dsimp only at hSw); go_simp; try with_reducible rfl)
                      simp only [Act.put, List.setIfInBounds_toArray, List.set_cons_zero, List.set_cons_succ]
                      refine rgn_take (i := 13) (v := ?rv51) rfl (by kernel_rfl) (by kernel_rfl) (by kernel_rfl) (fun _ _ _ h => h) (by rfl) ?rh51 (by assumption) ?rr51
                      case rh51 => (intro w hSw; (try dsimp only at hSw); go_simp; try with_reducible rfl)
                      simp only [Act.put, List.setIfInBounds_toArray, List.set_cons_zero, List.set_cons_succ]
                      refine rgn_take (i := 14) (v := ?rv52) rfl (by kernel_rfl) (by kernel_rfl) (by kernel_rfl) (fun _ _ _ h => h) (by rfl) ?rh52 (by assumption) ?rr52
                      case rh52 => (intro w hSw; (try dsimp only at hSw); go_simp; try with_reducible rfl)
                      simp only [Act.put, List.setIfInBounds_toArray, List.set_cons_zero, List.set_cons_succ]
                      refine rgn_take (i := 15) (v := ?rv53) rfl (by kernel_rfl) (by kernel_rfl) (by kernel_rfl) (fun _ _ _ h => h) (by rfl) ?rh53 (by assumption) ?rr53
                      case rh53 => (intro w hSw; (try dsimp only at hSw); go_simp; try with_reducible rfl)
                      simp only [Act.put, List.setIfInBounds_toArray, List.set_cons_zero, List.set_cons_succ]
                      refine rgn_take (i := 16) (v := ?rv54) rfl (by kernel_rfl) (by kernel_rfl) (by kernel_rfl) (fun _ _ _ h => h) (by rfl) ?rh54 (by assumption) ?rr54
                      case rh54 => (intro w hSw; (try dsimp only at hSw); go_simp; try with_reducible rfl)
                      simp only [Act.put, List.setIfInBounds_toArray, List.set_cons_zero, List.set_cons_succ]
                      refine rgn_take (i := 17) (v := ?rv55) rfl (by kernel_rfl) (by kernel_rfl) (by kernel_rfl) (fun _ _ _ h => h) (by rfl) ?rh55 (by assumption) ?rr55
                      case rh55 => (intro w hSw; (try dsimp only at hSw); go_simp; try with_reducible rfl)
                      simp only [Act.put, List.setIfInBounds_toArray, List.set_cons_zero, List.set_cons_succ]
                      refine rgn_take (i := 18) (v := ?rv56) rfl (by kernel_rfl) (by kernel_rfl) (by kernel_rfl) (fun _ _ _ h => h) (by rfl) ?rh56 (by assumption) ?rr56
                      case rh56 => (intro w hSw; (try dsimp only at hSw); go_simp; try with_reducible rfl)
                      simp only [Act.put, List.setIfInBounds_toArray, List.set_cons_zero, List.set_cons_succ]
                      refine rgn_take (i := 19) (v := ?rv57) rfl (by kernel_rfl) (by kernel_rfl) (by kernel_rfl) (fun _ _ _ h => h) (by rfl) ?rh57 (by assumption) ?rr57
                      case rh57 => (intro w hSw; (try dsimp only at hSw); go_simp; try with_reducible rfl)
                      simp only [Act.put, List.setIfInBounds_toArray, List.set_cons_zero, List.set_cons_succ]
                      refine rgn_take (i := 20) (v := ?rv58) rfl (by kernel_rfl) (by kernel_rfl) (by kernel_rfl) (fun _ _ _ h => h) (by rfl) ?rh58 (by assumption) ?rr58
                      case rh58 => (intro w hSw; (try dsimp only at hSw); go_simp; try with_reducible rfl)
                      simp only [Act.put, List.setIfInBounds_toArray, List.set_cons_zero, List.set_cons_succ]
                      refine rgn_take (i := 21) (v := ?rv59) rfl (by kernel_rfl) (by kernel_rfl) (by kernel_rfl) (fun _ _ _ h => h) (by rfl) ?rh59 (by assumption) ?rr59
                      case rh59 => (intro w hSw; (try dsimp only at hSw); go_simp; try with_reducible rfl)
                      simp only [Act.put, List.setIfInBounds_toArray, List.set_cons_zero, List.set_cons_succ]
                      refine wpAnyH_done (by kernel_rfl) ?_ _
                      go_wp2_with fail
                      go_meet
                      exact ⟨k, _, by omega, rfl, rfl, HI2.out⟩
                  · have hli : ¬ (k : Int) < ts.length := by omega
                    have HI2 : Hid (insRf f ts = ts.take k ++ f :: ts.drop k) := insRf_at (by omega) (fun j hj h => by rw [HFn.out]; exact HK.out j hj h) (fun h => absurd h (by omega))
                    go_upto_region 25 with fail
                    refine wp_region_held_drew (S := fun w' => w'.cell? ⟨t, 1, none⟩ = some (.slice At ts.length ct)) (by kernel_rfl) p1 ?_
                    intro hS0
                    refine rgn_take (i := 0) (v := ?rv60) rfl (by kernel_rfl) (by kernel_rfl) (by kernel_rfl) (fun _ _ _ h => h) (by rfl) ?rh60 (by assumption) ?rr60
                    case rh60 => (intro w hSw; (try dsimp only at hSw); go_simp; try with_reducible rfl)
                    simp only [Act.put, List.setIfInBounds_toArray, List.set_cons_zero, List.set_cons_succ]
                    refine rgn_take (i := 1) (v := ?rv61) rfl (by kernel_rfl) (by kernel_rfl) (by kernel_rfl) (fun _ _ _ h => h) (by rfl) ?rh61 (by assumption) ?rr61
                    case rh61 => (intro w hSw; (try dsimp only at hSw); go_simp; try with_reducible rfl)
                    simp only [Act.put, List.setIfInBounds_toArray, List.set_cons_zero, List.set_cons_succ]
                    refine rgn_take (i := 2) (v := ?rv62) rfl (by kernel_rfl) (by kernel_rfl) (by kernel_rfl) (fun _ _ _ h => h) (by rfl) ?rh62 (by assumption) ?rr62
                    case rh62 => (intro w hSw; (try dsimp only at hSw); go_simp; try with_reducible rfl)
                    simp only [Act.put, List.setIfInBounds_toArray, List.set_cons_zero, List.set_cons_succ]
                    refine rgn_take (i := 3) (v := ?rv63) rfl (by kernel_rfl) (by kernel_rfl) (by kernel_rfl) (fun _ _ _ h => h) (by rfl) ?rh63 (by assumption) ?rr63
                    case rh63 => (intro w hSw; (try dsimp only at hSw); go_simp; try with_reducible rfl)
                    simp only [Act.put, List.setIfInBounds_toArray, List.set_cons_zero, List.set_cons_succ]
                    refine rgn_take (i := 4) (v := ?rv64) rfl (by kernel_rfl) (by kernel_rfl) (by kernel_rfl) (fun _ _ _ h => h) (by rfl) ?rh64 (by assumption) ?rr64
                    case rh64 => (intro w hSw; (try dsimp only at hSw); go_simp; try with_reducible rfl)
                    simp only [Act.put, List.setIfInBounds_toArray, List.set_cons_zero, List.set_cons_succ]
                    refine rgn_take (i := 5) (v := ?rv65) rfl (by kernel_rfl) (by kernel_rfl) (by kernel_rfl) (fun _ _ _ h => h) (by rfl) ?rh65 (by assumption) ?rr65
                    case rh65 => (intro w hSw; (try dsimp only at hSw); go_simp; try with_reducible rfl)
                    simp only [Act.put, List.setIfInBounds_toArray, List.set_cons_zero, List.set_cons_succ]
                    refine rgn_take (i := 6) (v := ?rv66) rfl (by kernel_rfl) (by kernel_rfl) (by kernel_rfl) (fun _ _ _ h => h) (by rfl) ?rh66 (by assumption) ?rr66
                    case rh66 => (intro w hSw; (try dsimp only at hSw); go_simp; try with_reducible rfl)
                    simp only [Act.put, List.setIfInBounds_toArray, List.set_cons_zero, List.set_cons_succ]
                    refine rgn_take (i := 7) (v := ?rv67) rfl (by kernel_rfl) (by kernel_rfl) (by kernel_rfl) (fun _ _ _ h => h) (by rfl) ?rh67 (by assumption) ?rr67
                    case rh67 => (intro w hSw; (try dsimp only at hSw); go_simp; try with_reducible rfl)
                    simp only [Act.put, List.setIfInBounds_toArray, List.set_cons_zero, List.set_cons_succ]
                    refine rgn_skip (i := 8) rfl (by kernel_rfl) (by kernel_rfl) (by kernel_rfl) (fun _ _ _ h => h) (by rfl) (by assumption) ?_
                    simp only [Act.put, List.setIfInBounds_toArray, List.set_cons_zero, List.set_cons_succ]
                    refine rgn_skip (i := 9) rfl (by kernel_rfl) (by kernel_rfl) (by kernel_rfl) (fun _ _ _ h => h) (by rfl) (by assumption) ?_
                    simp only [Act.put, List.setIfInBounds_toArray, List.set_cons_zero, List.set_cons_succ]
                    refine rgn_skip (i := 10) rfl (by kernel_rfl) (by kernel_rfl) (by kernel_rfl) (fun _ _ _ h => h) (by rfl) (by assumption) ?_
                    simp only [Act.put, List.setIfInBounds_toArray, List.set_cons_zero, List.set_cons_succ]
                    refine rgn_skip (i := 11) rfl (by kernel_rfl) (by kernel_rfl) (by kernel_rfl) (fun _ _ _ h => h) (by rfl) (by assumption) ?_
                    simp only [Act.put, List.setIfInBounds_toArray, List.set_cons_zero, List.set_cons_succ]
                    refine rgn_skip (i := 12) rfl (by kernel_rfl) (by kernel_rfl) (by kernel_rfl) (fun _ _ _ h => h) (by rfl) (by assumption) ?_
                    simp only [Act.put, List.setIfInBounds_toArray, List.set_cons_zero, List.set_cons_succ]
                    refine rgn_skip (i := 13) rfl (by kernel_rfl) (by kernel_rfl) (by kernel_rfl) (fun _ _ _ h => h) (by rfl) (by assumption) ?_
                    simp only [Act.put, List.setIfInBounds_toArray, List.set_cons_zero, List.set_cons_succ]
                    refine rgn_skip (i := 14) rfl (by kernel_rfl) (by kernel_rfl) (by kernel_rfl) (fun _ _ _ h => h) (by rfl) (by assumption) ?_
                    simp only [Act.put, List.setIfInBounds_toArray, List.set_cons_zero, List.set_cons_succ]
                    refine rgn_skip (i := 15) rfl (by kernel_rfl) (by kernel_rfl) (by kernel_rfl) (fun _ _ _ h => h) (by rfl) (by assumption) ?_
                    simp only [Act.put, List.setIfInBounds_toArray, List.set_cons_zero, List.set_cons_succ]
                    refine rgn_skip (i := 16) rfl (by kernel_rfl) (by kernel_rfl) (by kernel_rfl) (fun _ _ _ h => h) (by rfl) (by assumption) ?_
                    simp only [Act.put, List.setIfInBounds_toArray, List.set_cons_zero, List.set_cons_succ]
                    refine rgn_skip (i := 17) rfl (by kernel_rfl) (by kernel_rfl) (by kernel_rfl) (fun _ _ _ h => h) (by rfl) (by assumption) ?_
                    simp only [Act.put, List.setIfInBounds_toArray, List.set_cons_zero, List.set_cons_succ]
                    refine rgn_skip (i := 18) rfl (by kernel_rfl) (by kernel_rfl) (by kernel_rfl) (fun _ _ _ h => h) (by rfl) (by assumption) ?_
                    simp only [Act.put, List.setIfInBounds_toArray, List.set_cons_zero, List.set_cons_succ]
                    refine rgn_skip (i := 19) rfl (by kernel_rfl) (by kernel_rfl) (by kernel_rfl) (fun _ _ _ h => h) (by rfl) (by assumption) ?_
                    simp only [Act.put, List.setIfInBounds_toArray, List.set_cons_zero, List.set_cons_succ]
                    refine rgn_skip (i := 20) rfl (by kernel_rfl) (by kernel_rfl) (by kernel_rfl) (fun _ _ _ h => h) (by rfl) (by assumption) ?_
                    simp only [Act.put, List.setIfInBounds_toArray, List.set_cons_zero, List.set_cons_succ]
                    refine rgn_take (i := 21) (v := ?rv81) rfl (by kernel_rfl) (by kernel_rfl) (by kernel_rfl) (fun _ _ _ h => h) (by rfl) ?rh81 (by assumption) ?rr81
                    case rh81 => (intro w hSw; (try dsimp only at hSw); go_simp; try with_reducible rfl)
                    simp only [Act.put, List.setIfInBounds_toArray, List.set_cons_zero, List.set_cons_succ]
                    refine wpAnyH_done (by kernel_rfl) ?_ _
                    go_wp2_with fail
                    go_meet
                    exact ⟨k, _, by omega, rfl, rfl, HI2.out⟩
              case rest =>
                obtain ⟨k, n, hk, rfl, rfl, hI2⟩ := hcut
                have HI2 := Lib.hid hI2.out
                have hs9 := HS8.out.drewN n
                generalize World.drewN w7 n = w9 at *
                have HS9 : Hid (Sat w0 (Row 125 5 (.slice A7 (all.length + 1) c7) (all ++ [f]).length ((all ++ [f]).flatMap rfV) * (Pt gf 125 #[.int .i64 (xm : Int), .int .i64 (a : Int), .int .i64 (bl : Int), .slice none 0 0, .int .i64 0] * (RSp t N (.slice At ts.length ct) ts * (RSp r N (.slice Av fs.length cv) fs * F)))) w9) := by
                  unfold Hid
                  rw [List.length_append, List.flatMap_append, List.flatMap_cons, List.flatMap_nil, List.append_nil, HFv.out]
                  exact hs9
                clear hs9 HS8 hI2
                have hkc : (k : Int) ≤ ct := by omega
                have hkz : (0 : Int) ≤ k := by omega
                have hkl : (k : Int) ≤ ts.length := by omega
                have HOk : Hid (∀ g ∈ insRf f ts, FvOk g) := fun g hg => by
                  rcases insRf_mem hg with rfl | hg
                  · exact HFo.out
                  · exact HTv.out g hg
                have HFin : Hid (∀ (G : SP) (A3 : Option Addr) (c3 m : Nat) (W : World), m = ts.length + 1 → Sat w0 (Row 125 5 (.slice A3 m c3) m (((ts.take k).flatMap rfV ++ [.int .i64 (xm : Int), .int .i64 (a : Int), .int .i64 (bl : Int), .slice none 0 0, .int .i64 0]) ++ (ts.drop k).flatMap rfV) * (Row 125 5 (.slice A7 (all.length + 1) c7) (all ++ [f]).length ((all ++ [f]).flatMap rfV) * (Pt gf 125 #[.int .i64 (xm : Int), .int .i64 (a : Int), .int .i64 (bl : Int), .slice none 0 0, .int .i64 0] * (RSp t N (.slice At ts.length ct) ts * (RSp r N (.slice Av fs.length cv) fs * G))))) W → Sat w0 (RSp t N (.slice A3 (ts.length + 1) c3) (insRf f ts) * (Row 125 5 (.slice A7 (all.length + 1) c7) (all ++ [f]).length ((all ++ [f]).flatMap rfV) * (RSp r N (.slice Av fs.length cv) fs * G))) (W.setCell ⟨t, 1, none⟩ (.slice A3 m c3))) := fun G A3 c3 m W hm hW => by
                  subst hm
                  have h1 := (hW.of (show _ = Pt t 65 #[.int .i64 (N : Int), .slice At ts.length ct] * ((Row 125 5 (.slice At ts.length ct) ts.length (ts.flatMap rfV) * Pt gf 125 #[.int .i64 (xm : Int), .int .i64 (a : Int), .int .i64 (bl : Int), .slice none 0 0, .int .i64 0]) * (Row 125 5 (.slice A3 (ts.length + 1) c3) (ts.length + 1) (((ts.take k).flatMap rfV ++ [.int .i64 (xm : Int), .int .i64 (a : Int), .int .i64 (bl : Int), .slice none 0 0, .int .i64 0]) ++ (ts.drop k).flatMap rfV) * (Row 125 5 (.slice A7 (all.length + 1) c7) (all ++ [f]).length ((all ++ [f]).flatMap rfV) * (RSp r N (.slice Av fs.length cv) fs * G)))) by rw [rsp_d]; ac_rfl)).set 1 (.slice A3 (ts.length + 1) c3)
                  have h2 := h1.up2.right
                  have e1 : RSp t N (.slice A3 (ts.length + 1) c3) (insRf f ts) = Pt t 65 #[.int .i64 (N : Int), .slice A3 (ts.length + 1) c3] * Row 125 5 (.slice A3 (ts.length + 1) c3) (ts.length + 1) (((ts.take k).flatMap rfV ++ [.int .i64 (xm : Int), .int .i64 (a : Int), .int .i64 (bl : Int), .slice none 0 0, .int .i64 0]) ++ (ts.drop k).flatMap rfV) := by
                    unfold RSp
                    rw [HI2.out, List.flatMap_append, List.flatMap_cons, HFv.out, show (ts.take k ++ f :: ts.drop k).length = ts.length + 1 by rw [List.length_append, List.length_cons, List.length_take, List.length_drop]; omega, List.append_assoc]
                  rw [e1]
                  exact h2.of (star_assoc _ _ _).symm
                have HEnd : Hid (∀ (A3 : Option Addr) (c3 : Nat) (W : World), Sat w0 (RSp t N (.slice A3 (ts.length + 1) c3) (insRf f ts) * (Row 125 5 (.slice A7 (all.length + 1) c7) (all ++ [f]).length ((all ++ [f]).flatMap rfV) * (RSp r N (.slice Av fs.length cv) fs * F))) W → ∃ (Aa : Option Addr) (ca : Nat) (all2 : List Rf) (v2 : Value) (ts2 : List Rf), Value.slice A7 (all.length + 1) c7 = .slice Aa all2.length ca ∧ Hid (all2.length ≤ 24 + (i + 1) ∧ ts2.length ≤ 24 + (i + 1) ∧ (∀ f ∈ all2, FvOk f) ∧ (∀ f ∈ ts2, FvOk f) ∧ LieOk N (all2.map rfLie) ∧ raddX N add lie0 k0 = raddX N (add.drop (i + 1)) (all2.map rfLie) ts2 ∧
                    Sat w0 (RSp t N v2 ts2 * (Row 125 5 (.slice Aa all2.length ca) all2.length (all2.flatMap rfV) * (RSp r N (.slice Av fs.length cv) fs * F))) W)) := fun A3 c3 W hW => by
                  have hl : (all ++ [f]).length = all.length + 1 := by rw [List.length_append]; rfl
                  refine ⟨A7, c7, all ++ [f], .slice A3 (ts.length + 1) c3, insRf f ts, by rw [hl], by rw [hl]; have := HAl.out; omega, by rw [insRf_len]; have := HTl.out; omega, fun g hg => ?_, HOk.out, HLk.out, HX1.out, ?_⟩
                  · rcases List.mem_append.1 hg with hg | hg
                    · exact HAv.out g hg
                    · rw [List.mem_singleton.1 hg]; exact HFo.out
                  · rw [hl] at hW ⊢
                    exact hW
                have HRest : Hid (∀ (A' : Option Addr) W, RdV W At (ts.flatMap rfV) → (A' = if ct = k then At else At.map (·.add (k * 5))) → RdV W A' ((ts.drop k).flatMap rfV)) := by
                  intro A' W hx hq
                  rw [rf_dp]
                  subst hq
                  by_cases hck : ct = k
                  · have : ts.length = k := by omega
                    rw [List.drop_of_length_le (by rw [rfV_len]; omega)]
                    exact RdV.nil _ _
                  · rw [if_neg hck]
                    have h4 := RdV.drop hx (k := k * 5) (cap := ct * 5) (by rw [rfV_len]; omega) (by rw [rfV_len]; omega)
                    rwa [if_neg (by omega)] at h4
                go_upto_region 28 with fail
                rcases (HS9.out.up3.of rsp_d).up2.row_two with ⟨rfl, rfl, h0⟩ | ⟨g, rfl⟩
                · have hk0 : k = 0 := by omega
                  subst hk0
                  refine rgnz_start (z := 21) (S := fun w' => w'.cell? ⟨t, 1, none⟩ = some (.slice none ts.length 0) ∧ w'.cell? ⟨gf, 0, none⟩ = some (.int .i64 (xm : Int)) ∧ w'.cell? ⟨gf, 1, none⟩ = some (.int .i64 (a : Int)) ∧ w'.cell? ⟨gf, 2, none⟩ = some (.int .i64 (bl : Int)) ∧ w'.cell? ⟨gf, 3, none⟩ = some (.slice none 0 0) ∧ w'.cell? ⟨gf, 4, none⟩ = some (.int .i64 0)) (by kernel_rfl) ⟨(HS9.out.drew.up3.of rsp_d).cell 1, HS9.out.drew.up2.cell 0, HS9.out.drew.up2.cell 1, HS9.out.drew.up2.cell 2, HS9.out.drew.up2.cell 3, HS9.out.drew.up2.cell 4⟩ ?_
                  intro hS0
                  refine rgnz_take (i := 0) (v := ?rv82) rfl (by kernel_rfl) (by kernel_rfl) (by kernel_rfl) (by kernel_rfl) (fun _ _ _ h => h) (by rfl) ?rh82 (by assumption) ?rr82
                  case rh82 => (intro w hSw; (try dsimp only at hSw); go_simp; try with_reducible rfl)
                  simp only [Act.put, List.setIfInBounds_toArray, List.set_cons_zero, List.set_cons_succ]
                  refine rgnz_take (i := 1) (v := ?rv83) rfl (by kernel_rfl) (by kernel_rfl) (by kernel_rfl) (by kernel_rfl) (fun _ _ _ h => h) (by rfl) ?rh83 (by assumption) ?rr83
                  case rh83 => (intro w hSw; (try dsimp only at hSw); go_simp; try with_reducible rfl)
                  simp only [Act.put, List.setIfInBounds_toArray, List.set_cons_zero, List.set_cons_succ]
                  refine rgnz_take (i := 2) (v := ?rv84) rfl (by kernel_rfl) (by kernel_rfl) (by kernel_rfl) (by kernel_rfl) (fun _ _ _ h => h) (by rfl) ?rh84 (by assumption) ?rr84
                  case rh84 => (intro w hSw; (try dsimp only at hSw); go_simp; try with_reducible rfl)
                  simp only [Act.put, List.setIfInBounds_toArray, List.set_cons_zero, List.set_cons_succ]
                  refine rgnz_take (i := 3) (v := ?rv85) rfl (by kernel_rfl) (by kernel_rfl) (by kernel_rfl) (by kernel_rfl) (fun _ _ _ h => h) (by rfl) ?rh85 (by assumption) ?rr85
                  case rh85 => (intro w hSw; (try dsimp only at hSw); go_simp; try with_reducible rfl)
                  simp only [Act.put, List.setIfInBounds_toArray, List.set_cons_zero, List.set_cons_succ]
                  refine rgnz_take (i := 4) (v := ?rv86) rfl (by kernel_rfl) (by kernel_rfl) (by kernel_rfl) (by kernel_rfl) (fun _ _ _ h => h) (by rfl) ?rh86 (by assumption) ?rr86
                  case rh86 => (intro w hSw; (try dsimp only at hSw); go_simp; try with_reducible rfl)
                  simp only [Act.put, List.setIfInBounds_toArray, List.set_cons_zero, List.set_cons_succ]
                  refine rgnz_take (i := 5) (v := ?rv87) rfl (by kernel_rfl) (by kernel_rfl) (by kernel_rfl) (by kernel_rfl) (fun _ _ _ h => h) (by rfl) ?rh87 (by assumption) ?rr87
                  case rh87 => (intro w hSw; (try dsimp only at hSw); go_simp; try with_reducible rfl)
                  simp only [Act.put, List.setIfInBounds_toArray, List.set_cons_zero, List.set_cons_succ]
                  refine rgnz_take (i := 6) (v := ?rv88) rfl (by kernel_rfl) (by kernel_rfl) (by kernel_rfl) (by kernel_rfl) (fun _ _ _ h => h) (by rfl) ?rh88 (by assumption) ?rr88
                  case rh88 => (intro w hSw; (try dsimp only at hSw); go_simp; try with_reducible rfl)
                  simp only [Act.put, List.setIfInBounds_toArray, List.set_cons_zero, List.set_cons_succ]
                  refine rgnz_take (i := 7) (v := ?rv89) rfl (by kernel_rfl) (by kernel_rfl) (by kernel_rfl) (by kernel_rfl) (fun _ _ _ h => h) (by rfl) ?rh89 (by assumption) ?rr89
                  case rh89 => (intro w hSw; (try dsimp only at hSw); go_simp; try with_reducible rfl)
                  simp only [Act.put, List.setIfInBounds_toArray, List.set_cons_zero, List.set_cons_succ]
                  refine rgnz_take (i := 9) (v := ?rv90) rfl (by kernel_rfl) (by kernel_rfl) (by kernel_rfl) (by kernel_rfl) (fun _ _ _ h => h) (by rfl) ?rh90 (by assumption) ?rr90
                  case rh90 => (intro w hSw; (try dsimp only at hSw); go_simp; try with_reducible rfl)
                  simp only [Act.put, List.setIfInBounds_toArray, List.set_cons_zero, List.set_cons_succ]
                  refine rgnz_take (i := 12) (v := ?rv91) rfl (by kernel_rfl) (by kernel_rfl) (by kernel_rfl) (by kernel_rfl) (fun _ _ _ h => h) (by rfl) ?rh91 (by assumption) ?rr91
                  case rh91 => (intro w hSw; (try dsimp only at hSw); go_simp; try with_reducible rfl)
                  simp only [Act.put, List.setIfInBounds_toArray, List.set_cons_zero, List.set_cons_succ]
                  refine rgnz_take (i := 13) (v := ?rv92) rfl (by kernel_rfl) (by kernel_rfl) (by kernel_rfl) (by kernel_rfl) (fun _ _ _ h => h) (by rfl) ?rh92 (by assumption) ?rr92
                  case rh92 => (intro w hSw; (try dsimp only at hSw); go_simp; try with_reducible rfl)
                  simp only [Act.put, List.setIfInBounds_toArray, List.set_cons_zero, List.set_cons_succ]
                  refine rgnz_take (i := 14) (v := ?rv93) rfl (by kernel_rfl) (by kernel_rfl) (by kernel_rfl) (by kernel_rfl) (fun _ _ _ h => h) (by rfl) ?rh93 (by assumption) ?rr93
                  case rh93 => (intro w hSw; (try dsimp only at hSw); go_simp; try with_reducible rfl)
                  simp only [Act.put, List.setIfInBounds_toArray, List.set_cons_zero, List.set_cons_succ]
                  refine rgnz_take (i := 15) (v := ?rv94) rfl (by kernel_rfl) (by kernel_rfl) (by kernel_rfl) (by kernel_rfl) (fun _ _ _ h => h) (by rfl) ?rh94 (by assumption) ?rr94
                  case rh94 => (intro w hSw; (try dsimp only at hSw); go_simp; try with_reducible rfl)
                  simp only [Act.put, List.setIfInBounds_toArray, List.set_cons_zero, List.set_cons_succ]
                  refine rgnz_take (i := 16) (v := ?rv95) rfl (by kernel_rfl) (by kernel_rfl) (by kernel_rfl) (by kernel_rfl) (fun _ _ _ h => h) (by rfl) ?rh95 (by assumption) ?rr95
                  case rh95 => (intro w hSw; (try dsimp only at hSw); go_simp; try with_reducible rfl)
                  simp only [Act.put, List.setIfInBounds_toArray, List.set_cons_zero, List.set_cons_succ]
                  refine rgnz_take (i := 17) (v := ?rv96) rfl (by kernel_rfl) (by kernel_rfl) (by kernel_rfl) (by kernel_rfl) (fun _ _ _ h => h) (by rfl) ?rh96 (by assumption) ?rr96
                  case rh96 => (intro w hSw; (try dsimp only at hSw); go_simp; try with_reducible rfl)
                  simp only [Act.put, List.setIfInBounds_toArray, List.set_cons_zero, List.set_cons_succ]
                  refine rgnz_both (i := 8) (j := 10) rfl rfl (by kernel_rfl) (fun K hK => ?_) (fun K hK => ?_)
                  ·
                    refine step_appS rfl (.tmp 150) (.tmp 156) 63 rfl 125 i0 _ 5 56 Try.underlying63 hi0.out hz0.out hz1.out hz2.out rfl (by decide) (.slice none 0 0) 0 [] rfl w0 _ (by exact (HS9.out.drew).row_nil _ 5) none 0 0 ((ts.take 0).flatMap rfV) rfl (by rw [rf_tk]; exact RdV.take ((HS9.out.drew).up3).rsp_rd _) (by rw [rfV_len, List.length_take, Nat.min_eq_left (by omega)]) (rf_ones fun g hg => HTv.out g (List.mem_of_mem_take hg)) (by unfold maxLen; omega) (by omega) ?_; intro A1 c1 w1 hs; rw [Nat.zero_add, List.nil_append] at hs; rw [Nat.zero_add]; have HB1 := Lib.hid hs; clear hs
                    refine hK.out _ _ ⟨(HB1.out.up4.of rsp_d).cell 1, HB1.out.up3.cell 0, HB1.out.up3.cell 1, HB1.out.up3.cell 2, HB1.out.up3.cell 3, HB1.out.up3.cell 4⟩ (fun hS0 => ?_)
                    clear hK K
                    try simp only [Act.put, List.setIfInBounds_toArray, List.set_cons_zero, List.set_cons_succ]
                    refine rgnz_call (i := 10) rfl (by kernel_rfl) (fun K hK => ?_)
                    go_simp
                    have hs := HB1.out.alloc' (.cells #[.int .i64 (xm : Int), .int .i64 (a : Int), .int .i64 (bl : Int), .slice none 0 0, .int .i64 0] 125)
                    refine hK.out _ _ ⟨(hs.up4.of rsp_d).cell 1, hs.up3.cell 0, hs.up3.cell 1, hs.up3.cell 2, hs.up3.cell 3, hs.up3.cell 4⟩ (fun hS0 => ?_)
                    clear hK K
                    refine rgnz_call (i := 11) rfl (by kernel_rfl) (fun K hK => ?_)
                    refine step_appS rfl (.tmp 157) (.tmp 159) 63 rfl 125 i0 _ 5 56 Try.underlying63 hi0.out hz0.out hz1.out hz2.out rfl (by decide) (.slice A1 0 c1) 0 ((ts.take 0).flatMap rfV) rfl w0 _ (by exact HB1.out.alloc' _) (some ⟨w1.heap.size, 0, none⟩) 1 1 [.int .i64 (xm : Int), .int .i64 (a : Int), .int .i64 (bl : Int), .slice none 0 0, .int .i64 0] rfl (lit_rdv _ _ _) rfl (by intro u hu; simp at hu; rcases hu with rfl | rfl | rfl | rfl | rfl <;> rfl) (by unfold maxLen; omega) (by omega) ?_; intro A2 c2 w2 hs; have HB2 := Lib.hid hs; clear hs
                    refine hK.out _ _ ⟨(HB2.out.up4.of rsp_d).cell 1, HB2.out.up3.cell 0, HB2.out.up3.cell 1, HB2.out.up3.cell 2, HB2.out.up3.cell 3, HB2.out.up3.cell 4⟩ (fun hS0 => ?_)
                    clear hK K
                    try simp only [Act.put, List.setIfInBounds_toArray, List.set_cons_zero, List.set_cons_succ]
                    refine rgnz_call (i := 18) rfl (by kernel_rfl) (fun K hK => ?_)
                    refine step_appS rfl (.tmp 160) (.tmp 166) 63 rfl 125 i0 _ 5 56 Try.underlying63 hi0.out hz0.out hz1.out hz2.out rfl (by decide) (.slice A2 (0 + 1) c2) (0 + 1) ((ts.take 0).flatMap rfV ++ [.int .i64 (xm : Int), .int .i64 (a : Int), .int .i64 (bl : Int), .slice none 0 0, .int .i64 0]) rfl w0 _ (by exact HB2.out) none 0 0 ((ts.drop 0).flatMap rfV) rfl (HRest.out _ _ HB2.out.up4.rsp_rd (by rw [if_pos rfl])) (by rw [rfV_len, List.length_drop] <;> omega) (rf_ones fun g hg => HTv.out g (List.mem_of_mem_drop hg)) (by unfold maxLen; omega) (by omega) ?_; intro A3 c3 w3 hs; have HB3 := Lib.hid hs; have y1 := (HB3.out.up4.of rsp_d).cell 1; have y2 := (HB3.out.up4.of rsp_d).frozen 1; clear hs
                    refine hK.out _ _ ⟨(HB3.out.up4.of rsp_d).cell 1, HB3.out.up3.cell 0, HB3.out.up3.cell 1, HB3.out.up3.cell 2, HB3.out.up3.cell 3, HB3.out.up3.cell 4⟩ (fun hS0 => ?_)
                    clear hK K
                    try simp only [Act.put, List.setIfInBounds_toArray, List.set_cons_zero, List.set_cons_succ]
                    refine rgnz_call (i := 19) rfl (by kernel_rfl) (fun K hK => ?_)
                    go_simp
                    refine hK.out _ _ ⟨(HB3.out.up4.of rsp_d).cell 1, HB3.out.up3.cell 0, HB3.out.up3.cell 1, HB3.out.up3.cell 2, HB3.out.up3.cell 3, HB3.out.up3.cell 4⟩ (fun hS0 => ?_)
                    clear hK K
                    refine rgnz_take (i := 20) (v := ?rv102) rfl (by kernel_rfl) (by kernel_rfl) (by kernel_rfl) (by kernel_rfl) (fun _ _ _ h => h) (by rfl) ?rh102 (by assumption) ?rr102
                    case rh102 => (intro w hSw; (try dsimp only at hSw); go_simp; try with_reducible rfl)
                    simp only [Act.put, List.setIfInBounds_toArray, List.set_cons_zero, List.set_cons_succ]
                    refine rgnz_last rfl (by kernel_rfl) (by kernel_rfl) (fun K hK => ?_)
                    go_simp
                    refine hK.out _ _ ?_
                    clear hK K
                    have hs10 := HFin.out _ A3 c3 (0 + 1 + 0) w3 (by omega) HB3.out
                    have hs11 : Sat w0 (RSp t N (.slice A3 (ts.length + 1) c3) (insRf f ts) * (Row 125 5 (.slice A7 (all.length + 1) c7) (all ++ [f]).length ((all ++ [f]).flatMap rfV) * (RSp r N (.slice Av fs.length cv) fs * F))) _ := hs10
                    have HE2 := Lib.hid (HEnd.out A3 c3 _ hs11)
                    clear hs10 hs11 HB1 HB2 HB3 y1 y2
                    go_wp2_with fail
                    go_roundw
                    · obtain ⟨Aa, ca, all2, v2, ts2, e1, e2⟩ := HE2.out
                      exact ⟨i + 1, Aa, ca, all2, v2, ts2, by omega, by go_num, e1, e2⟩
                    · simp [intOf]; omega
                  ·
                    go_simp
                    have HL9 := Lib.hid (((HS9.out).allocPt 125 #[.int .i64 (xm : Int), .int .i64 (a : Int), .int .i64 (bl : Int), .slice none 0 0, .int .i64 0]).drew.of (show _ = Row 125 5 (.slice A7 (all.length + 1) c7) (all ++ [f]).length ((all ++ [f]).flatMap rfV) * (Pt gf 125 #[.int .i64 (xm : Int), .int .i64 (a : Int), .int .i64 (bl : Int), .slice none 0 0, .int .i64 0] * (RSp t N (.slice none ts.length 0) ts * (RSp r N (.slice Av fs.length cv) fs * (Pt w9.heap.size 125 #[.int .i64 (xm : Int), .int .i64 (a : Int), .int .i64 (bl : Int), .slice none 0 0, .int .i64 0] * F)))) by ac_rfl))
                    refine hK.out _ _ ⟨(HL9.out.up3.of rsp_d).cell 1, HL9.out.up2.cell 0, HL9.out.up2.cell 1, HL9.out.up2.cell 2, HL9.out.up2.cell 3, HL9.out.up2.cell 4⟩ (fun hS0 => ?_)
                    clear hK K
                    refine rgnz_call (i := 8) rfl (by kernel_rfl) (fun K hK => ?_)
                    refine step_appS rfl (.tmp 150) (.tmp 156) 63 rfl 125 i0 _ 5 56 Try.underlying63 hi0.out hz0.out hz1.out hz2.out rfl (by decide) (.slice none 0 0) 0 [] rfl w0 _ (by exact (HL9.out).row_nil _ 5) none 0 0 ((ts.take 0).flatMap rfV) rfl (by rw [rf_tk]; exact RdV.take ((HL9.out).up3).rsp_rd _) (by rw [rfV_len, List.length_take, Nat.min_eq_left (by omega)]) (rf_ones fun g hg => HTv.out g (List.mem_of_mem_take hg)) (by unfold maxLen; omega) (by omega) ?_; intro A1 c1 w1 hs; rw [Nat.zero_add, List.nil_append] at hs; rw [Nat.zero_add]; have HB1 := Lib.hid hs; clear hs
                    refine hK.out _ _ ⟨(HB1.out.up4.of rsp_d).cell 1, HB1.out.up3.cell 0, HB1.out.up3.cell 1, HB1.out.up3.cell 2, HB1.out.up3.cell 3, HB1.out.up3.cell 4⟩ (fun hS0 => ?_)
                    clear hK K
                    try simp only [Act.put, List.setIfInBounds_toArray, List.set_cons_zero, List.set_cons_succ]
                    refine rgnz_call (i := 11) rfl (by kernel_rfl) (fun K hK => ?_)
                    refine step_appS rfl (.tmp 157) (.tmp 159) 63 rfl 125 i0 _ 5 56 Try.underlying63 hi0.out hz0.out hz1.out hz2.out rfl (by decide) (.slice A1 0 c1) 0 ((ts.take 0).flatMap rfV) rfl w0 _ (by exact HB1.out) (some ⟨w9.heap.size, 0, none⟩) 1 1 [.int .i64 (xm : Int), .int .i64 (a : Int), .int .i64 (bl : Int), .slice none 0 0, .int .i64 0] rfl (lit_fi HB1.out.up6 rfl) rfl (by intro u hu; simp at hu; rcases hu with rfl | rfl | rfl | rfl | rfl <;> rfl) (by unfold maxLen; omega) (by omega) ?_; intro A2 c2 w2 hs; have HB2 := Lib.hid hs; clear hs
                    refine hK.out _ _ ⟨(HB2.out.up4.of rsp_d).cell 1, HB2.out.up3.cell 0, HB2.out.up3.cell 1, HB2.out.up3.cell 2, HB2.out.up3.cell 3, HB2.out.up3.cell 4⟩ (fun hS0 => ?_)
                    clear hK K
                    try simp only [Act.put, List.setIfInBounds_toArray, List.set_cons_zero, List.set_cons_succ]
                    refine rgnz_call (i := 18) rfl (by kernel_rfl) (fun K hK => ?_)
                    refine step_appS rfl (.tmp 160) (.tmp 166) 63 rfl 125 i0 _ 5 56 Try.underlying63 hi0.out hz0.out hz1.out hz2.out rfl (by decide) (.slice A2 (0 + 1) c2) (0 + 1) ((ts.take 0).flatMap rfV ++ [.int .i64 (xm : Int), .int .i64 (a : Int), .int .i64 (bl : Int), .slice none 0 0, .int .i64 0]) rfl w0 _ (by exact HB2.out) none 0 0 ((ts.drop 0).flatMap rfV) rfl (HRest.out _ _ HB2.out.up4.rsp_rd (by rw [if_pos rfl])) (by rw [rfV_len, List.length_drop] <;> omega) (rf_ones fun g hg => HTv.out g (List.mem_of_mem_drop hg)) (by unfold maxLen; omega) (by omega) ?_; intro A3 c3 w3 hs; have HB3 := Lib.hid hs; have y1 := (HB3.out.up4.of rsp_d).cell 1; have y2 := (HB3.out.up4.of rsp_d).frozen 1; clear hs
                    refine hK.out _ _ ⟨(HB3.out.up4.of rsp_d).cell 1, HB3.out.up3.cell 0, HB3.out.up3.cell 1, HB3.out.up3.cell 2, HB3.out.up3.cell 3, HB3.out.up3.cell 4⟩ (fun hS0 => ?_)
                    clear hK K
                    try simp only [Act.put, List.setIfInBounds_toArray, List.set_cons_zero, List.set_cons_succ]
                    refine rgnz_call (i := 19) rfl (by kernel_rfl) (fun K hK => ?_)
                    go_simp
                    refine hK.out _ _ ⟨(HB3.out.up4.of rsp_d).cell 1, HB3.out.up3.cell 0, HB3.out.up3.cell 1, HB3.out.up3.cell 2, HB3.out.up3.cell 3, HB3.out.up3.cell 4⟩ (fun hS0 => ?_)
                    clear hK K
                    refine rgnz_take (i := 20) (v := ?rv120) rfl (by kernel_rfl) (by kernel_rfl) (by kernel_rfl) (by kernel_rfl) (fun _ _ _ h => h) (by rfl) ?rh120 (by assumption) ?rr120
                    case rh120 => (intro w hSw; (try dsimp only at hSw); go_simp; try with_reducible rfl)
                    simp only [Act.put, List.setIfInBounds_toArray, List.set_cons_zero, List.set_cons_succ]
                    refine rgnz_last rfl (by kernel_rfl) (by kernel_rfl) (fun K hK => ?_)
                    go_simp
                    refine hK.out _ _ ?_
                    clear hK K
                    have hs10 := HFin.out _ A3 c3 (0 + 1 + 0) w3 (by omega) HB3.out
                    have hs11 : Sat w0 (RSp t N (.slice A3 (ts.length + 1) c3) (insRf f ts) * (Row 125 5 (.slice A7 (all.length + 1) c7) (all ++ [f]).length ((all ++ [f]).flatMap rfV) * (RSp r N (.slice Av fs.length cv) fs * F))) _ := (hs10.of (show _ = Pt w9.heap.size 125 #[.int .i64 (xm : Int), .int .i64 (a : Int), .int .i64 (bl : Int), .slice none 0 0, .int .i64 0] * (RSp t N (.slice A3 (ts.length + 1) c3) (insRf f ts) * (Row 125 5 (.slice A7 (all.length + 1) c7) (all ++ [f]).length ((all ++ [f]).flatMap rfV) * (RSp r N (.slice Av fs.length cv) fs * F))) by ac_rfl)).right
                    have HE2 := Lib.hid (HEnd.out A3 c3 _ hs11)
                    clear hs10 hs11 HB1 HB2 HB3 y1 y2
                    go_wp2_with fail
                    go_roundw
                    · obtain ⟨Aa, ca, all2, v2, ts2, e1, e2⟩ := HE2.out
                      exact ⟨i + 1, Aa, ca, all2, v2, ts2, by omega, by go_num, e1, e2⟩
                    · simp [intOf]; omega
                · by_cases hck : ct = k
                  · subst hck
                    refine rgnz_start (z := 21) (S := fun w' => w'.cell? ⟨t, 1, none⟩ = some (.slice (some ⟨g, 0, none⟩) ts.length ct) ∧ w'.cell? ⟨gf, 0, none⟩ = some (.int .i64 (xm : Int)) ∧ w'.cell? ⟨gf, 1, none⟩ = some (.int .i64 (a : Int)) ∧ w'.cell? ⟨gf, 2, none⟩ = some (.int .i64 (bl : Int)) ∧ w'.cell? ⟨gf, 3, none⟩ = some (.slice none 0 0) ∧ w'.cell? ⟨gf, 4, none⟩ = some (.int .i64 0)) (by kernel_rfl) ⟨(HS9.out.drew.up3.of rsp_d).cell 1, HS9.out.drew.up2.cell 0, HS9.out.drew.up2.cell 1, HS9.out.drew.up2.cell 2, HS9.out.drew.up2.cell 3, HS9.out.drew.up2.cell 4⟩ ?_
                    intro hS0
                    refine rgnz_take (i := 0) (v := ?rv134) rfl (by kernel_rfl) (by kernel_rfl) (by kernel_rfl) (by kernel_rfl) (fun _ _ _ h => h) (by rfl) ?rh134 (by assumption) ?rr134
                    case rh134 => (intro w hSw; (try dsimp only at hSw); go_simp; try with_reducible rfl)
                    simp only [Act.put, List.setIfInBounds_toArray, List.set_cons_zero, List.set_cons_succ]
                    refine rgnz_take (i := 1) (v := ?rv135) rfl (by kernel_rfl) (by kernel_rfl) (by kernel_rfl) (by kernel_rfl) (fun _ _ _ h => h) (by rfl) ?rh135 (by assumption) ?rr135
                    case rh135 => (intro w hSw; (try dsimp only at hSw); go_simp; try with_reducible rfl)
                    simp only [Act.put, List.setIfInBounds_toArray, List.set_cons_zero, List.set_cons_succ]
                    refine rgnz_take (i := 2) (v := ?rv136) rfl (by kernel_rfl) (by kernel_rfl) (by kernel_rfl) (by kernel_rfl) (fun _ _ _ h => h) (by rfl) ?rh136 (by assumption) ?rr136
                    case rh136 => (intro w hSw; (try dsimp only at hSw); go_simp; try with_reducible rfl)
                    simp only [Act.put, List.setIfInBounds_toArray, List.set_cons_zero, List.set_cons_succ]
                    refine rgnz_take (i := 3) (v := ?rv137) rfl (by kernel_rfl) (by kernel_rfl) (by kernel_rfl) (by kernel_rfl) (fun _ _ _ h => h) (by rfl) ?rh137 (by assumption) ?rr137
                    case rh137 => (intro w hSw; (try dsimp only at hSw); go_simp; try with_reducible rfl)
                    simp only [Act.put, List.setIfInBounds_toArray, List.set_cons_zero, List.set_cons_succ]
                    refine rgnz_take (i := 4) (v := ?rv138) rfl (by kernel_rfl) (by kernel_rfl) (by kernel_rfl) (by kernel_rfl) (fun _ _ _ h => h) (by rfl) ?rh138 (by assumption) ?rr138
                    case rh138 => (intro w hSw; (try dsimp only at hSw); go_simp; try with_reducible rfl)
                    simp only [Act.put, List.setIfInBounds_toArray, List.set_cons_zero, List.set_cons_succ]
                    refine rgnz_take (i := 5) (v := ?rv139) rfl (by kernel_rfl) (by kernel_rfl) (by kernel_rfl) (by kernel_rfl) (fun _ _ _ h => h) (by rfl) ?rh139 (by assumption) ?rr139
                    case rh139 => (intro w hSw; (try dsimp only at hSw); go_simp; try with_reducible rfl)
                    simp only [Act.put, List.setIfInBounds_toArray, List.set_cons_zero, List.set_cons_succ]
                    refine rgnz_take (i := 6) (v := ?rv140) rfl (by kernel_rfl) (by kernel_rfl) (by kernel_rfl) (by kernel_rfl) (fun _ _ _ h => h) (by rfl) ?rh140 (by assumption) ?rr140
                    case rh140 => (intro w hSw; (try dsimp only at hSw); go_simp; try with_reducible rfl)
                    simp only [Act.put, List.setIfInBounds_toArray, List.set_cons_zero, List.set_cons_succ]
                    refine rgnz_take (i := 7) (v := ?rv141) rfl (by kernel_rfl) (by kernel_rfl) (by kernel_rfl) (by kernel_rfl) (fun _ _ _ h => h) (by rfl) ?rh141 (by assumption) ?rr141
                    case rh141 => (intro w hSw; (try dsimp only at hSw); go_simp; try with_reducible rfl)
                    simp only [Act.put, List.setIfInBounds_toArray, List.set_cons_zero, List.set_cons_succ]
                    refine rgnz_take (i := 9) (v := ?rv142) rfl (by kernel_rfl) (by kernel_rfl) (by kernel_rfl) (by kernel_rfl) (fun _ _ _ h => h) (by rfl) ?rh142 (by assumption) ?rr142
                    case rh142 => (intro w hSw; (try dsimp only at hSw); go_simp; try with_reducible rfl)
                    simp only [Act.put, List.setIfInBounds_toArray, List.set_cons_zero, List.set_cons_succ]
                    refine rgnz_take (i := 12) (v := ?rv143) rfl (by kernel_rfl) (by kernel_rfl) (by kernel_rfl) (by kernel_rfl) (fun _ _ _ h => h) (by rfl) ?rh143 (by assumption) ?rr143
                    case rh143 => (intro w hSw; (try dsimp only at hSw); go_simp; try with_reducible rfl)
                    simp only [Act.put, List.setIfInBounds_toArray, List.set_cons_zero, List.set_cons_succ]
                    refine rgnz_take (i := 13) (v := ?rv144) rfl (by kernel_rfl) (by kernel_rfl) (by kernel_rfl) (by kernel_rfl) (fun _ _ _ h => h) (by rfl) ?rh144 (by assumption) ?rr144
                    case rh144 => (intro w hSw; (try dsimp only at hSw); go_simp; try with_reducible rfl)
                    simp only [Act.put, List.setIfInBounds_toArray, List.set_cons_zero, List.set_cons_succ]
                    refine rgnz_take (i := 14) (v := ?rv145) rfl (by kernel_rfl) (by kernel_rfl) (by kernel_rfl) (by kernel_rfl) (fun _ _ _ h => h) (by rfl) ?rh145 (by assumption) ?rr145
                    case rh145 => (intro w hSw; (try dsimp only at hSw); go_simp; try with_reducible rfl)
                    simp only [Act.put, List.setIfInBounds_toArray, List.set_cons_zero, List.set_cons_succ]
                    refine rgnz_take (i := 15) (v := ?rv146) rfl (by kernel_rfl) (by kernel_rfl) (by kernel_rfl) (by kernel_rfl) (fun _ _ _ h => h) (by rfl) ?rh146 (by assumption) ?rr146
                    case rh146 => (intro w hSw; (try dsimp only at hSw); go_simp; try with_reducible rfl)
                    simp only [Act.put, List.setIfInBounds_toArray, List.set_cons_zero, List.set_cons_succ]
                    refine rgnz_take (i := 16) (v := ?rv147) rfl (by kernel_rfl) (by kernel_rfl) (by kernel_rfl) (by kernel_rfl) (fun _ _ _ h => h) (by rfl) ?rh147 (by assumption) ?rr147
                    case rh147 => (intro w hSw; (try dsimp only at hSw); go_simp; try with_reducible rfl)
                    simp only [Act.put, List.setIfInBounds_toArray, List.set_cons_zero, List.set_cons_succ]
                    refine rgnz_take (i := 17) (v := ?rv148) rfl (by kernel_rfl) (by kernel_rfl) (by kernel_rfl) (by kernel_rfl) (fun _ _ _ h => h) (by rfl) ?rh148 (by assumption) ?rr148
                    case rh148 => (intro w hSw; (try dsimp only at hSw); go_simp; try with_reducible rfl)
                    simp only [Act.put, List.setIfInBounds_toArray, List.set_cons_zero, List.set_cons_succ]
                    refine rgnz_both (i := 8) (j := 10) rfl rfl (by kernel_rfl) (fun K hK => ?_) (fun K hK => ?_)
                    ·
                      refine step_appS rfl (.tmp 150) (.tmp 156) 63 rfl 125 i0 _ 5 56 Try.underlying63 hi0.out hz0.out hz1.out hz2.out rfl (by decide) (.slice none 0 0) 0 [] rfl w0 _ (by exact (HS9.out.drew).row_nil _ 5) (some ⟨g, 0, none⟩) ct ct ((ts.take ct).flatMap rfV) rfl (by rw [rf_tk]; exact RdV.take ((HS9.out.drew).up3).rsp_rd _) (by rw [rfV_len, List.length_take, Nat.min_eq_left (by omega)]) (rf_ones fun g hg => HTv.out g (List.mem_of_mem_take hg)) (by unfold maxLen; omega) (by omega) ?_; intro A1 c1 w1 hs; rw [Nat.zero_add, List.nil_append] at hs; rw [Nat.zero_add]; have HB1 := Lib.hid hs; clear hs
                      refine hK.out _ _ ⟨(HB1.out.up4.of rsp_d).cell 1, HB1.out.up3.cell 0, HB1.out.up3.cell 1, HB1.out.up3.cell 2, HB1.out.up3.cell 3, HB1.out.up3.cell 4⟩ (fun hS0 => ?_)
                      clear hK K
                      try simp only [Act.put, List.setIfInBounds_toArray, List.set_cons_zero, List.set_cons_succ]
                      refine rgnz_call (i := 10) rfl (by kernel_rfl) (fun K hK => ?_)
                      go_simp
                      have hs := HB1.out.alloc' (.cells #[.int .i64 (xm : Int), .int .i64 (a : Int), .int .i64 (bl : Int), .slice none 0 0, .int .i64 0] 125)
                      refine hK.out _ _ ⟨(hs.up4.of rsp_d).cell 1, hs.up3.cell 0, hs.up3.cell 1, hs.up3.cell 2, hs.up3.cell 3, hs.up3.cell 4⟩ (fun hS0 => ?_)
                      clear hK K
                      refine rgnz_call (i := 11) rfl (by kernel_rfl) (fun K hK => ?_)
                      refine step_appS rfl (.tmp 157) (.tmp 159) 63 rfl 125 i0 _ 5 56 Try.underlying63 hi0.out hz0.out hz1.out hz2.out rfl (by decide) (.slice A1 ct c1) ct ((ts.take ct).flatMap rfV) rfl w0 _ (by exact HB1.out.alloc' _) (some ⟨w1.heap.size, 0, none⟩) 1 1 [.int .i64 (xm : Int), .int .i64 (a : Int), .int .i64 (bl : Int), .slice none 0 0, .int .i64 0] rfl (lit_rdv _ _ _) rfl (by intro u hu; simp at hu; rcases hu with rfl | rfl | rfl | rfl | rfl <;> rfl) (by unfold maxLen; omega) (by omega) ?_; intro A2 c2 w2 hs; have HB2 := Lib.hid hs; clear hs
                      refine hK.out _ _ ⟨(HB2.out.up4.of rsp_d).cell 1, HB2.out.up3.cell 0, HB2.out.up3.cell 1, HB2.out.up3.cell 2, HB2.out.up3.cell 3, HB2.out.up3.cell 4⟩ (fun hS0 => ?_)
                      clear hK K
                      try simp only [Act.put, List.setIfInBounds_toArray, List.set_cons_zero, List.set_cons_succ]
                      refine rgnz_call (i := 18) rfl (by kernel_rfl) (fun K hK => ?_)
                      refine step_appS rfl (.tmp 160) (.tmp 166) 63 rfl 125 i0 _ 5 56 Try.underlying63 hi0.out hz0.out hz1.out hz2.out rfl (by decide) (.slice A2 (ct + 1) c2) (ct + 1) ((ts.take ct).flatMap rfV ++ [.int .i64 (xm : Int), .int .i64 (a : Int), .int .i64 (bl : Int), .slice none 0 0, .int .i64 0]) rfl w0 _ (by exact HB2.out) (some ⟨g, 0, none⟩) 0 0 ((ts.drop ct).flatMap rfV) rfl (HRest.out _ _ HB2.out.up4.rsp_rd (by rw [if_pos rfl])) (by rw [rfV_len, List.length_drop] <;> omega) (rf_ones fun g hg => HTv.out g (List.mem_of_mem_drop hg)) (by unfold maxLen; omega) (by omega) ?_; intro A3 c3 w3 hs; have HB3 := Lib.hid hs; have y1 := (HB3.out.up4.of rsp_d).cell 1; have y2 := (HB3.out.up4.of rsp_d).frozen 1; clear hs
                      refine hK.out _ _ ⟨(HB3.out.up4.of rsp_d).cell 1, HB3.out.up3.cell 0, HB3.out.up3.cell 1, HB3.out.up3.cell 2, HB3.out.up3.cell 3, HB3.out.up3.cell 4⟩ (fun hS0 => ?_)
                      clear hK K
                      try simp only [Act.put, List.setIfInBounds_toArray, List.set_cons_zero, List.set_cons_succ]
                      refine rgnz_call (i := 19) rfl (by kernel_rfl) (fun K hK => ?_)
                      go_simp
                      refine hK.out _ _ ⟨(HB3.out.up4.of rsp_d).cell 1, HB3.out.up3.cell 0, HB3.out.up3.cell 1, HB3.out.up3.cell 2, HB3.out.up3.cell 3, HB3.out.up3.cell 4⟩ (fun hS0 => ?_)
                      clear hK K
                      refine rgnz_take (i := 20) (v := ?rv154) rfl (by kernel_rfl) (by kernel_rfl) (by kernel_rfl) (by kernel_rfl) (fun _ _ _ h => h) (by rfl) ?rh154 (by assumption) ?rr154
                      case rh154 => (intro w hSw; (try dsimp only at hSw); go_simp; try with_reducible rfl)
                      simp only [Act.put, List.setIfInBounds_toArray, List.set_cons_zero, List.set_cons_succ]
                      refine rgnz_last rfl (by kernel_rfl) (by kernel_rfl) (fun K hK => ?_)
                      go_simp
                      refine hK.out _ _ ?_
                      clear hK K
                      have hs10 := HFin.out _ A3 c3 (ct + 1 + 0) w3 (by omega) HB3.out
                      have hs11 : Sat w0 (RSp t N (.slice A3 (ts.length + 1) c3) (insRf f ts) * (Row 125 5 (.slice A7 (all.length + 1) c7) (all ++ [f]).length ((all ++ [f]).flatMap rfV) * (RSp r N (.slice Av fs.length cv) fs * F))) _ := hs10
                      have HE2 := Lib.hid (HEnd.out A3 c3 _ hs11)
                      clear hs10 hs11 HB1 HB2 HB3 y1 y2
                      go_wp2_with fail
                      go_roundw
                      · obtain ⟨Aa, ca, all2, v2, ts2, e1, e2⟩ := HE2.out
                        exact ⟨i + 1, Aa, ca, all2, v2, ts2, by omega, by go_num, e1, e2⟩
                      · simp [intOf]; omega
                    ·
                      go_simp
                      have HL9 := Lib.hid (((HS9.out).allocPt 125 #[.int .i64 (xm : Int), .int .i64 (a : Int), .int .i64 (bl : Int), .slice none 0 0, .int .i64 0]).drew.of (show _ = Row 125 5 (.slice A7 (all.length + 1) c7) (all ++ [f]).length ((all ++ [f]).flatMap rfV) * (Pt gf 125 #[.int .i64 (xm : Int), .int .i64 (a : Int), .int .i64 (bl : Int), .slice none 0 0, .int .i64 0] * (RSp t N (.slice (some ⟨g, 0, none⟩) ts.length ct) ts * (RSp r N (.slice Av fs.length cv) fs * (Pt w9.heap.size 125 #[.int .i64 (xm : Int), .int .i64 (a : Int), .int .i64 (bl : Int), .slice none 0 0, .int .i64 0] * F)))) by ac_rfl))
                      refine hK.out _ _ ⟨(HL9.out.up3.of rsp_d).cell 1, HL9.out.up2.cell 0, HL9.out.up2.cell 1, HL9.out.up2.cell 2, HL9.out.up2.cell 3, HL9.out.up2.cell 4⟩ (fun hS0 => ?_)
                      clear hK K
                      refine rgnz_call (i := 8) rfl (by kernel_rfl) (fun K hK => ?_)
                      refine step_appS rfl (.tmp 150) (.tmp 156) 63 rfl 125 i0 _ 5 56 Try.underlying63 hi0.out hz0.out hz1.out hz2.out rfl (by decide) (.slice none 0 0) 0 [] rfl w0 _ (by exact (HL9.out).row_nil _ 5) (some ⟨g, 0, none⟩) ct ct ((ts.take ct).flatMap rfV) rfl (by rw [rf_tk]; exact RdV.take ((HL9.out).up3).rsp_rd _) (by rw [rfV_len, List.length_take, Nat.min_eq_left (by omega)]) (rf_ones fun g hg => HTv.out g (List.mem_of_mem_take hg)) (by unfold maxLen; omega) (by omega) ?_; intro A1 c1 w1 hs; rw [Nat.zero_add, List.nil_append] at hs; rw [Nat.zero_add]; have HB1 := Lib.hid hs; clear hs
                      refine hK.out _ _ ⟨(HB1.out.up4.of rsp_d).cell 1, HB1.out.up3.cell 0, HB1.out.up3.cell 1, HB1.out.up3.cell 2, HB1.out.up3.cell 3, HB1.out.up3.cell 4⟩ (fun hS0 => ?_)
                      clear hK K
                      try simp only [Act.put, List.setIfInBounds_toArray, List.set_cons_zero, List.set_cons_succ]
                      refine rgnz_call (i := 11) rfl (by kernel_rfl) (fun K hK => ?_)
                      refine step_appS rfl (.tmp 157) (.tmp 159) 63 rfl 125 i0 _ 5 56 Try.underlying63 hi0.out hz0.out hz1.out hz2.out rfl (by decide) (.slice A1 ct c1) ct ((ts.take ct).flatMap rfV) rfl w0 _ (by exact HB1.out) (some ⟨w9.heap.size, 0, none⟩) 1 1 [.int .i64 (xm : Int), .int .i64 (a : Int), .int .i64 (bl : Int), .slice none 0 0, .int .i64 0] rfl (lit_fi HB1.out.up6 rfl) rfl (by intro u hu; simp at hu; rcases hu with rfl | rfl | rfl | rfl | rfl <;> rfl) (by unfold maxLen; omega) (by omega) ?_; intro A2 c2 w2 hs; have HB2 := Lib.hid hs; clear hs
                      refine hK.out _ _ ⟨(HB2.out.up4.of rsp_d).cell 1, HB2.out.up3.cell 0, HB2.out.up3.cell 1, HB2.out.up3.cell 2, HB2.out.up3.cell 3, HB2.out.up3.cell 4⟩ (fun hS0 => ?_)
                      clear hK K
                      try simp only [Act.put, List.setIfInBounds_toArray, List.set_cons_zero, List.set_cons_succ]
                      refine rgnz_call (i := 18) rfl (by kernel_rfl) (fun K hK => ?_)
                      refine step_appS rfl (.tmp 160) (.tmp 166) 63 rfl 125 i0 _ 5 56 Try.underlying63 hi0.out hz0.out hz1.out hz2.out rfl (by decide) (.slice A2 (ct + 1) c2) (ct + 1) ((ts.take ct).flatMap rfV ++ [.int .i64 (xm : Int), .int .i64 (a : Int), .int .i64 (bl : Int), .slice none 0 0, .int .i64 0]) rfl w0 _ (by exact HB2.out) (some ⟨g, 0, none⟩) 0 0 ((ts.drop ct).flatMap rfV) rfl (HRest.out _ _ HB2.out.up4.rsp_rd (by rw [if_pos rfl])) (by rw [rfV_len, List.length_drop] <;> omega) (rf_ones fun g hg => HTv.out g (List.mem_of_mem_drop hg)) (by unfold maxLen; omega) (by omega) ?_; intro A3 c3 w3 hs; have HB3 := Lib.hid hs; have y1 := (HB3.out.up4.of rsp_d).cell 1; have y2 := (HB3.out.up4.of rsp_d).frozen 1; clear hs
                      refine hK.out _ _ ⟨(HB3.out.up4.of rsp_d).cell 1, HB3.out.up3.cell 0, HB3.out.up3.cell 1, HB3.out.up3.cell 2, HB3.out.up3.cell 3, HB3.out.up3.cell 4⟩ (fun hS0 => ?_)
                      clear hK K
                      try simp only [Act.put, List.setIfInBounds_toArray, List.set_cons_zero, List.set_cons_succ]
                      refine rgnz_call (i := 19) rfl (by kernel_rfl) (fun K hK => ?_)
                      go_simp
                      refine hK.out _ _ ⟨(HB3.out.up4.of rsp_d).cell 1, HB3.out.up3.cell 0, HB3.out.up3.cell 1, HB3.out.up3.cell 2, HB3.out.up3.cell 3, HB3.out.up3.cell 4⟩ (fun hS0 => ?_)
                      clear hK K
                      refine rgnz_take (i := 20) (v := ?rv172) rfl (by kernel_rfl) (by kernel_rfl) (by kernel_rfl) (by kernel_rfl) (fun _ _ _ h => h) (by rfl) ?rh172 (by assumption) ?rr172
                      case rh172 => (intro w hSw; (try dsimp only at hSw); go_simp; try with_reducible rfl)
                      simp only [Act.put, List.setIfInBounds_toArray, List.set_cons_zero, List.set_cons_succ]
                      refine rgnz_last rfl (by kernel_rfl) (by kernel_rfl) (fun K hK => ?_)
                      go_simp
                      refine hK.out _ _ ?_
                      clear hK K
                      have hs10 := HFin.out _ A3 c3 (ct + 1 + 0) w3 (by omega) HB3.out
                      have hs11 : Sat w0 (RSp t N (.slice A3 (ts.length + 1) c3) (insRf f ts) * (Row 125 5 (.slice A7 (all.length + 1) c7) (all ++ [f]).length ((all ++ [f]).flatMap rfV) * (RSp r N (.slice Av fs.length cv) fs * F))) _ := (hs10.of (show _ = Pt w9.heap.size 125 #[.int .i64 (xm : Int), .int .i64 (a : Int), .int .i64 (bl : Int), .slice none 0 0, .int .i64 0] * (RSp t N (.slice A3 (ts.length + 1) c3) (insRf f ts) * (Row 125 5 (.slice A7 (all.length + 1) c7) (all ++ [f]).length ((all ++ [f]).flatMap rfV) * (RSp r N (.slice Av fs.length cv) fs * F))) by ac_rfl)).right
                      have HE2 := Lib.hid (HEnd.out A3 c3 _ hs11)
                      clear hs10 hs11 HB1 HB2 HB3 y1 y2
                      go_wp2_with fail
                      go_roundw
                      · obtain ⟨Aa, ca, all2, v2, ts2, e1, e2⟩ := HE2.out
                        exact ⟨i + 1, Aa, ca, all2, v2, ts2, by omega, by go_num, e1, e2⟩
                      · simp [intOf]; omega
                  · skip
                    refine rgnz_start (z := 21) (S := fun w' => w'.cell? ⟨t, 1, none⟩ = some (.slice (some ⟨g, 0, none⟩) ts.length ct) ∧ w'.cell? ⟨gf, 0, none⟩ = some (.int .i64 (xm : Int)) ∧ w'.cell? ⟨gf, 1, none⟩ = some (.int .i64 (a : Int)) ∧ w'.cell? ⟨gf, 2, none⟩ = some (.int .i64 (bl : Int)) ∧ w'.cell? ⟨gf, 3, none⟩ = some (.slice none 0 0) ∧ w'.cell? ⟨gf, 4, none⟩ = some (.int .i64 0)) (by kernel_rfl) ⟨(HS9.out.drew.up3.of rsp_d).cell 1, HS9.out.drew.up2.cell 0, HS9.out.drew.up2.cell 1, HS9.out.drew.up2.cell 2, HS9.out.drew.up2.cell 3, HS9.out.drew.up2.cell 4⟩ ?_
                    intro hS0
                    refine rgnz_take (i := 0) (v := ?rv186) rfl (by kernel_rfl) (by kernel_rfl) (by kernel_rfl) (by kernel_rfl) (fun _ _ _ h => h) (by rfl) ?rh186 (by assumption) ?rr186
                    case rh186 => (intro w hSw; (try dsimp only at hSw); go_simp; try with_reducible rfl)
                    simp only [Act.put, List.setIfInBounds_toArray, List.set_cons_zero, List.set_cons_succ]
                    refine rgnz_take (i := 1) (v := ?rv187) rfl (by kernel_rfl) (by kernel_rfl) (by kernel_rfl) (by kernel_rfl) (fun _ _ _ h => h) (by rfl) ?rh187 (by assumption) ?rr187
                    case rh187 => (intro w hSw; (try dsimp only at hSw); go_simp; try with_reducible rfl)
                    simp only [Act.put, List.setIfInBounds_toArray, List.set_cons_zero, List.set_cons_succ]
                    refine rgnz_take (i := 2) (v := ?rv188) rfl (by kernel_rfl) (by kernel_rfl) (by kernel_rfl) (by kernel_rfl) (fun _ _ _ h => h) (by rfl) ?rh188 (by assumption) ?rr188
                    case rh188 => (intro w hSw; (try dsimp only at hSw); go_simp; try with_reducible rfl)
                    simp only [Act.put, List.setIfInBounds_toArray, List.set_cons_zero, List.set_cons_succ]
                    refine rgnz_take (i := 3) (v := ?rv189) rfl (by kernel_rfl) (by kernel_rfl) (by kernel_rfl) (by kernel_rfl) (fun _ _ _ h => h) (by rfl) ?rh189 (by assumption) ?rr189
                    case rh189 => (intro w hSw; (try dsimp only at hSw); go_simp; try with_reducible rfl)
                    simp only [Act.put, List.setIfInBounds_toArray, List.set_cons_zero, List.set_cons_succ]
                    refine rgnz_take (i := 4) (v := ?rv190) rfl (by kernel_rfl) (by kernel_rfl) (by kernel_rfl) (by kernel_rfl) (fun _ _ _ h => h) (by rfl) ?rh190 (by assumption) ?rr190
                    case rh190 => (intro w hSw; (try dsimp only at hSw); go_simp; try with_reducible rfl)
                    simp only [Act.put, List.setIfInBounds_toArray, List.set_cons_zero, List.set_cons_succ]
                    refine rgnz_take (i := 5) (v := ?rv191) rfl (by kernel_rfl) (by kernel_rfl) (by kernel_rfl) (by kernel_rfl) (fun _ _ _ h => h) (by rfl) ?rh191 (by assumption) ?rr191
                    case rh191 => (intro w hSw; (try dsimp only at hSw); go_simp; try with_reducible rfl)
                    simp only [Act.put, List.setIfInBounds_toArray, List.set_cons_zero, List.set_cons_succ]
                    refine rgnz_take (i := 6) (v := ?rv192) rfl (by kernel_rfl) (by kernel_rfl) (by kernel_rfl) (by kernel_rfl) (fun _ _ _ h => h) (by rfl) ?rh192 (by assumption) ?rr192
                    case rh192 => (intro w hSw; (try dsimp only at hSw); go_simp; try with_reducible rfl)
                    simp only [Act.put, List.setIfInBounds_toArray, List.set_cons_zero, List.set_cons_succ]
                    refine rgnz_take (i := 7) (v := ?rv193) rfl (by kernel_rfl) (by kernel_rfl) (by kernel_rfl) (by kernel_rfl) (fun _ _ _ h => h) (by rfl) ?rh193 (by assumption) ?rr193
                    case rh193 => (intro w hSw; (try dsimp only at hSw); go_simp; try with_reducible rfl)
                    simp only [Act.put, List.setIfInBounds_toArray, List.set_cons_zero, List.set_cons_succ]
                    refine rgnz_take (i := 9) (v := ?rv194) rfl (by kernel_rfl) (by kernel_rfl) (by kernel_rfl) (by kernel_rfl) (fun _ _ _ h => h) (by rfl) ?rh194 (by assumption) ?rr194
                    case rh194 => (intro w hSw; (try dsimp only at hSw); go_simp; try with_reducible rfl)
                    simp only [Act.put, List.setIfInBounds_toArray, List.set_cons_zero, List.set_cons_succ]
                    refine rgnz_take (i := 12) (v := ?rv195) rfl (by kernel_rfl) (by kernel_rfl) (by kernel_rfl) (by kernel_rfl) (fun _ _ _ h => h) (by rfl) ?rh195 (by assumption) ?rr195
                    case rh195 => (intro w hSw; (try dsimp only at hSw); go_simp; try with_reducible rfl)
                    simp only [Act.put, List.setIfInBounds_toArray, List.set_cons_zero, List.set_cons_succ]
                    refine rgnz_take (i := 13) (v := ?rv196) rfl (by kernel_rfl) (by kernel_rfl) (by kernel_rfl) (by kernel_rfl) (fun _ _ _ h => h) (by rfl) ?rh196 (by assumption) ?rr196
                    case rh196 => (intro w hSw; (try dsimp only at hSw); go_simp; try with_reducible rfl)
                    simp only [Act.put, List.setIfInBounds_toArray, List.set_cons_zero, List.set_cons_succ]
                    refine rgnz_take (i := 14) (v := ?rv197) rfl (by kernel_rfl) (by kernel_rfl) (by kernel_rfl) (by kernel_rfl) (fun _ _ _ h => h) (by rfl) ?rh197 (by assumption) ?rr197
                    case rh197 => (intro w hSw; (try dsimp only at hSw); go_simp; try with_reducible rfl)
                    simp only [Act.put, List.setIfInBounds_toArray, List.set_cons_zero, List.set_cons_succ]
                    refine rgnz_take (i := 15) (v := ?rv198) rfl (by kernel_rfl) (by kernel_rfl) (by kernel_rfl) (by kernel_rfl) (fun _ _ _ h => h) (by rfl) ?rh198 (by assumption) ?rr198
                    case rh198 => (intro w hSw; (try dsimp only at hSw); go_simp; try with_reducible rfl)
                    simp only [Act.put, List.setIfInBounds_toArray, List.set_cons_zero, List.set_cons_succ]
                    refine rgnz_take (i := 16) (v := ?rv199) rfl (by kernel_rfl) (by kernel_rfl) (by kernel_rfl) (by kernel_rfl) (fun _ _ _ h => h) (by rfl) ?rh199 (by assumption) ?rr199
                    case rh199 => (intro w hSw; (try dsimp only at hSw); go_simp; try with_reducible rfl)
                    simp only [Act.put, List.setIfInBounds_toArray, List.set_cons_zero, List.set_cons_succ]
                    refine rgnz_take (i := 17) (v := ?rv200) rfl (by kernel_rfl) (by kernel_rfl) (by kernel_rfl) (by kernel_rfl) (fun _ _ _ h => h) (by rfl) ?rh200 (by assumption) ?rr200
                    case rh200 => (intro w hSw; (try dsimp only at hSw); go_simp; try with_reducible rfl)
                    simp only [Act.put, List.setIfInBounds_toArray, List.set_cons_zero, List.set_cons_succ]
                    refine rgnz_both (i := 8) (j := 10) rfl rfl (by kernel_rfl) (fun K hK => ?_) (fun K hK => ?_)
                    ·
                      refine step_appS rfl (.tmp 150) (.tmp 156) 63 rfl 125 i0 _ 5 56 Try.underlying63 hi0.out hz0.out hz1.out hz2.out rfl (by decide) (.slice none 0 0) 0 [] rfl w0 _ (by exact (HS9.out.drew).row_nil _ 5) (some ⟨g, 0, none⟩) k ct ((ts.take k).flatMap rfV) rfl (by rw [rf_tk]; exact RdV.take ((HS9.out.drew).up3).rsp_rd _) (by rw [rfV_len, List.length_take, Nat.min_eq_left (by omega)]) (rf_ones fun g hg => HTv.out g (List.mem_of_mem_take hg)) (by unfold maxLen; omega) (by omega) ?_; intro A1 c1 w1 hs; rw [Nat.zero_add, List.nil_append] at hs; rw [Nat.zero_add]; have HB1 := Lib.hid hs; clear hs
                      refine hK.out _ _ ⟨(HB1.out.up4.of rsp_d).cell 1, HB1.out.up3.cell 0, HB1.out.up3.cell 1, HB1.out.up3.cell 2, HB1.out.up3.cell 3, HB1.out.up3.cell 4⟩ (fun hS0 => ?_)
                      clear hK K
                      try simp only [Act.put, List.setIfInBounds_toArray, List.set_cons_zero, List.set_cons_succ]
                      refine rgnz_call (i := 10) rfl (by kernel_rfl) (fun K hK => ?_)
                      go_simp
                      have hs := HB1.out.alloc' (.cells #[.int .i64 (xm : Int), .int .i64 (a : Int), .int .i64 (bl : Int), .slice none 0 0, .int .i64 0] 125)
                      refine hK.out _ _ ⟨(hs.up4.of rsp_d).cell 1, hs.up3.cell 0, hs.up3.cell 1, hs.up3.cell 2, hs.up3.cell 3, hs.up3.cell 4⟩ (fun hS0 => ?_)
                      clear hK K
                      refine rgnz_call (i := 11) rfl (by kernel_rfl) (fun K hK => ?_)
                      refine step_appS rfl (.tmp 157) (.tmp 159) 63 rfl 125 i0 _ 5 56 Try.underlying63 hi0.out hz0.out hz1.out hz2.out rfl (by decide) (.slice A1 k c1) k ((ts.take k).flatMap rfV) rfl w0 _ (by exact HB1.out.alloc' _) (some ⟨w1.heap.size, 0, none⟩) 1 1 [.int .i64 (xm : Int), .int .i64 (a : Int), .int .i64 (bl : Int), .slice none 0 0, .int .i64 0] rfl (lit_rdv _ _ _) rfl (by intro u hu; simp at hu; rcases hu with rfl | rfl | rfl | rfl | rfl <;> rfl) (by unfold maxLen; omega) (by omega) ?_; intro A2 c2 w2 hs; have HB2 := Lib.hid hs; clear hs
                      refine hK.out _ _ ⟨(HB2.out.up4.of rsp_d).cell 1, HB2.out.up3.cell 0, HB2.out.up3.cell 1, HB2.out.up3.cell 2, HB2.out.up3.cell 3, HB2.out.up3.cell 4⟩ (fun hS0 => ?_)
                      clear hK K
                      try simp only [Act.put, List.setIfInBounds_toArray, List.set_cons_zero, List.set_cons_succ]
                      refine rgnz_call (i := 18) rfl (by kernel_rfl) (fun K hK => ?_)
                      refine step_appS rfl (.tmp 160) (.tmp 166) 63 rfl 125 i0 _ 5 56 Try.underlying63 hi0.out hz0.out hz1.out hz2.out rfl (by decide) (.slice A2 (k + 1) c2) (k + 1) ((ts.take k).flatMap rfV ++ [.int .i64 (xm : Int), .int .i64 (a : Int), .int .i64 (bl : Int), .slice none 0 0, .int .i64 0]) rfl w0 _ (by exact HB2.out) (some ⟨g, k * 5, none⟩) (ts.length - k) (ct - k) ((ts.drop k).flatMap rfV) rfl (HRest.out _ _ HB2.out.up4.rsp_rd (by rw [if_neg hck]; show some _ = some _; simp [Addr.add])) (by rw [rfV_len, List.length_drop] <;> omega) (rf_ones fun g hg => HTv.out g (List.mem_of_mem_drop hg)) (by unfold maxLen; omega) (by omega) ?_; intro A3 c3 w3 hs; have HB3 := Lib.hid hs; have y1 := (HB3.out.up4.of rsp_d).cell 1; have y2 := (HB3.out.up4.of rsp_d).frozen 1; clear hs
                      refine hK.out _ _ ⟨(HB3.out.up4.of rsp_d).cell 1, HB3.out.up3.cell 0, HB3.out.up3.cell 1, HB3.out.up3.cell 2, HB3.out.up3.cell 3, HB3.out.up3.cell 4⟩ (fun hS0 => ?_)
                      clear hK K
                      try simp only [Act.put, List.setIfInBounds_toArray, List.set_cons_zero, List.set_cons_succ]
                      refine rgnz_call (i := 19) rfl (by kernel_rfl) (fun K hK => ?_)
                      go_simp
                      refine hK.out _ _ ⟨(HB3.out.up4.of rsp_d).cell 1, HB3.out.up3.cell 0, HB3.out.up3.cell 1, HB3.out.up3.cell 2, HB3.out.up3.cell 3, HB3.out.up3.cell 4⟩ (fun hS0 => ?_)
                      clear hK K
                      refine rgnz_take (i := 20) (v := ?rv206) rfl (by kernel_rfl) (by kernel_rfl) (by kernel_rfl) (by kernel_rfl) (fun _ _ _ h => h) (by rfl) ?rh206 (by assumption) ?rr206
                      case rh206 => (intro w hSw; (try dsimp only at hSw); go_simp; try with_reducible rfl)
                      simp only [Act.put, List.setIfInBounds_toArray, List.set_cons_zero, List.set_cons_succ]
                      refine rgnz_last rfl (by kernel_rfl) (by kernel_rfl) (fun K hK => ?_)
                      go_simp
                      refine hK.out _ _ ?_
                      clear hK K
                      have hs10 := HFin.out _ A3 c3 (k + 1 + (ts.length - k)) w3 (by omega) HB3.out
                      have hs11 : Sat w0 (RSp t N (.slice A3 (ts.length + 1) c3) (insRf f ts) * (Row 125 5 (.slice A7 (all.length + 1) c7) (all ++ [f]).length ((all ++ [f]).flatMap rfV) * (RSp r N (.slice Av fs.length cv) fs * F))) _ := hs10
                      have HE2 := Lib.hid (HEnd.out A3 c3 _ hs11)
                      clear hs10 hs11 HB1 HB2 HB3 y1 y2
                      go_wp2_with fail
                      go_roundw
                      · obtain ⟨Aa, ca, all2, v2, ts2, e1, e2⟩ := HE2.out
                        exact ⟨i + 1, Aa, ca, all2, v2, ts2, by omega, by go_num, e1, e2⟩
                      · simp [intOf]; omega
                    ·
                      go_simp
                      have HL9 := Lib.hid (((HS9.out).allocPt 125 #[.int .i64 (xm : Int), .int .i64 (a : Int), .int .i64 (bl : Int), .slice none 0 0, .int .i64 0]).drew.of (show _ = Row 125 5 (.slice A7 (all.length + 1) c7) (all ++ [f]).length ((all ++ [f]).flatMap rfV) * (Pt gf 125 #[.int .i64 (xm : Int), .int .i64 (a : Int), .int .i64 (bl : Int), .slice none 0 0, .int .i64 0] * (RSp t N (.slice (some ⟨g, 0, none⟩) ts.length ct) ts * (RSp r N (.slice Av fs.length cv) fs * (Pt w9.heap.size 125 #[.int .i64 (xm : Int), .int .i64 (a : Int), .int .i64 (bl : Int), .slice none 0 0, .int .i64 0] * F)))) by ac_rfl))
                      refine hK.out _ _ ⟨(HL9.out.up3.of rsp_d).cell 1, HL9.out.up2.cell 0, HL9.out.up2.cell 1, HL9.out.up2.cell 2, HL9.out.up2.cell 3, HL9.out.up2.cell 4⟩ (fun hS0 => ?_)
                      clear hK K
                      refine rgnz_call (i := 8) rfl (by kernel_rfl) (fun K hK => ?_)
                      refine step_appS rfl (.tmp 150) (.tmp 156) 63 rfl 125 i0 _ 5 56 Try.underlying63 hi0.out hz0.out hz1.out hz2.out rfl (by decide) (.slice none 0 0) 0 [] rfl w0 _ (by exact (HL9.out).row_nil _ 5) (some ⟨g, 0, none⟩) k ct ((ts.take k).flatMap rfV) rfl (by rw [rf_tk]; exact RdV.take ((HL9.out).up3).rsp_rd _) (by rw [rfV_len, List.length_take, Nat.min_eq_left (by omega)]) (rf_ones fun g hg => HTv.out g (List.mem_of_mem_take hg)) (by unfold maxLen; omega) (by omega) ?_; intro A1 c1 w1 hs; rw [Nat.zero_add, List.nil_append] at hs; rw [Nat.zero_add]; have HB1 := Lib.hid hs; clear hs
                      refine hK.out _ _ ⟨(HB1.out.up4.of rsp_d).cell 1, HB1.out.up3.cell 0, HB1.out.up3.cell 1, HB1.out.up3.cell 2, HB1.out.up3.cell 3, HB1.out.up3.cell 4⟩ (fun hS0 => ?_)
                      clear hK K
                      try simp only [Act.put, List.setIfInBounds_toArray, List.set_cons_zero, List.set_cons_succ]
                      refine rgnz_call (i := 11) rfl (by kernel_rfl) (fun K hK => ?_)
                      refine step_appS rfl (.tmp 157) (.tmp 159) 63 rfl 125 i0 _ 5 56 Try.underlying63 hi0.out hz0.out hz1.out hz2.out rfl (by decide) (.slice A1 k c1) k ((ts.take k).flatMap rfV) rfl w0 _ (by exact HB1.out) (some ⟨w9.heap.size, 0, none⟩) 1 1 [.int .i64 (xm : Int), .int .i64 (a : Int), .int .i64 (bl : Int), .slice none 0 0, .int .i64 0] rfl (lit_fi HB1.out.up6 rfl) rfl (by intro u hu; simp at hu; rcases hu with rfl | rfl | rfl | rfl | rfl <;> rfl) (by unfold maxLen; omega) (by omega) ?_; intro A2 c2 w2 hs; have HB2 := Lib.hid hs; clear hs
                      refine hK.out _ _ ⟨(HB2.out.up4.of rsp_d).cell 1, HB2.out.up3.cell 0, HB2.out.up3.cell 1, HB2.out.up3.cell 2, HB2.out.up3.cell 3, HB2.out.up3.cell 4⟩ (fun hS0 => ?_)
                      clear hK K
                      try simp only [Act.put, List.setIfInBounds_toArray, List.set_cons_zero, List.set_cons_succ]
                      refine rgnz_call (i := 18) rfl (by kernel_rfl) (fun K hK => ?_)
                      refine step_appS rfl (.tmp 160) (.tmp 166) 63 rfl 125 i0 _ 5 56 Try.underlying63 hi0.out hz0.out hz1.out hz2.out rfl (by decide) (.slice A2 (k + 1) c2) (k + 1) ((ts.take k).flatMap rfV ++ [.int .i64 (xm : Int), .int .i64 (a : Int), .int .i64 (bl : Int), .slice none 0 0, .int .i64 0]) rfl w0 _ (by exact HB2.out) (some ⟨g, k * 5, none⟩) (ts.length - k) (ct - k) ((ts.drop k).flatMap rfV) rfl (HRest.out _ _ HB2.out.up4.rsp_rd (by rw [if_neg hck]; show some _ = some _; simp [Addr.add])) (by rw [rfV_len, List.length_drop] <;> omega) (rf_ones fun g hg => HTv.out g (List.mem_of_mem_drop hg)) (by unfold maxLen; omega) (by omega) ?_; intro A3 c3 w3 hs; have HB3 := Lib.hid hs; have y1 := (HB3.out.up4.of rsp_d).cell 1; have y2 := (HB3.out.up4.of rsp_d).frozen 1; clear hs
                      refine hK.out _ _ ⟨(HB3.out.up4.of rsp_d).cell 1, HB3.out.up3.cell 0, HB3.out.up3.cell 1, HB3.out.up3.cell 2, HB3.out.up3.cell 3, HB3.out.up3.cell 4⟩ (fun hS0 => ?_)
                      clear hK K
                      try simp only [Act.put, List.setIfInBounds_toArray, List.set_cons_zero, List.set_cons_succ]
                      refine rgnz_call (i := 19) rfl (by kernel_rfl) (fun K hK => ?_)
                      go_simp
                      refine hK.out _ _ ⟨(HB3.out.up4.of rsp_d).cell 1, HB3.out.up3.cell 0, HB3.out.up3.cell 1, HB3.out.up3.cell 2, HB3.out.up3.cell 3, HB3.out.up3.cell 4⟩ (fun hS0 => ?_)
                      clear hK K
                      refine rgnz_take (i := 20) (v := ?rv224) rfl (by kernel_rfl) (by kernel_rfl) (by kernel_rfl) (by kernel_rfl) (fun _ _ _ h => h) (by rfl) ?rh224 (by assumption) ?rr224
                      case rh224 => (intro w hSw; (try dsimp only at hSw); go_simp; try with_reducible rfl)
                      simp only [Act.put, List.setIfInBounds_toArray, List.set_cons_zero, List.set_cons_succ]
                      refine rgnz_last rfl (by kernel_rfl) (by kernel_rfl) (fun K hK => ?_)
                      go_simp
                      refine hK.out _ _ ?_
                      clear hK K
                      have hs10 := HFin.out _ A3 c3 (k + 1 + (ts.length - k)) w3 (by omega) HB3.out
                      have hs11 : Sat w0 (RSp t N (.slice A3 (ts.length + 1) c3) (insRf f ts) * (Row 125 5 (.slice A7 (all.length + 1) c7) (all ++ [f]).length ((all ++ [f]).flatMap rfV) * (RSp r N (.slice Av fs.length cv) fs * F))) _ := (hs10.of (show _ = Pt w9.heap.size 125 #[.int .i64 (xm : Int), .int .i64 (a : Int), .int .i64 (bl : Int), .slice none 0 0, .int .i64 0] * (RSp t N (.slice A3 (ts.length + 1) c3) (insRf f ts) * (Row 125 5 (.slice A7 (all.length + 1) c7) (all ++ [f]).length ((all ++ [f]).flatMap rfV) * (RSp r N (.slice Av fs.length cv) fs * F))) by ac_rfl)).right
                      have HE2 := Lib.hid (HEnd.out A3 c3 _ hs11)
                      clear hs10 hs11 HB1 HB2 HB3 y1 y2
                      go_wp2_with fail
                      go_roundw
                      · obtain ⟨Aa, ca, all2, v2, ts2, e1, e2⟩ := HE2.out
                        exact ⟨i + 1, Aa, ca, all2, v2, ts2, by omega, by go_num, e1, e2⟩
                      · simp [intOf]; omega
            · have HR : Hid (raddX N add lie0 k0 = none) := by
                unfold Hid
                rw [HI.out.2.2.2.2.2.1, HDr.out]
                have h9 := placeR_none hbl.1 HI.out.2.2.2.2.1 hno
                exact raddX_no (a := (placeX N (bl : Int) 2 (sortF (all.map rfLie))).1) (by show placeX N (bl : Int) 2 _ = _; rw [← h9])
              clear hno HPl HI HW
              go_wp2_with fail
              go_ret2
              exact .inl ⟨33, rfl, HS4.out.right.right, .inr (.inr ⟨HGA.out, HGD.out, Int.not_lt.2 H24.out, by rw [← HK2.out, ← HL0.out]; exact HR.out, rfl⟩)⟩
        · have hli : ¬ (i : Int) < add.length := by omega
          have HR : Hid (raddX N add lie0 k0 = some ts) := by
            unfold Hid
            rw [HI.out.2.2.2.2.2.1, List.drop_of_length_le (by omega)]
            rfl
          have HTv := Lib.hid HI.out.2.2.2.1
          have HW := Lib.hid HI.out.2.2.2.2.2.2
          clear HI
          go_wp2_with fail
          go_ret2
          exact .inr ⟨t, v2, ts, rfl, HGA.out, HGD.out, Int.not_lt.2 H24.out, by rw [← HK2.out, ← HL0.out]; exact HR.out, HTv.out, HW.out.up2.right⟩
end
end Go.Proofs.Ytjmapbhgjhlefaa
