/- Lists of rows of bytes of the call's own making; Twins, Lists, octet.Join, Within. -/
import Derived.Test.YtghgmecaebheoaaBytes
namespace Go.Proofs.Ytghgmecaebheoaa
open Go.RowKit
set_option linter.unusedVariables false

theorem info_sl : (Try.prog.info? 34).map (fun i => (i.zero, i.size, i.bytes)) = some (some (.slice none 0 0), 1, 24) := by kernel_rfl

theorem own_type {w : World} {base e n : Nat} {v : Value} {xs : List Value} (h : w.ownsRow base e 1 v n xs) {g : Nat} (hg : v.ownBlock = some g) : ∃ cur, At w g e cur := by
  rcases h.2 with ⟨rfl, _⟩ | ⟨g', cap, cur, rfl, _, hh, _⟩
  · simp [Value.ownBlock] at hg
  · simp [Value.ownBlock] at hg
    subst hg
    exact ⟨cur, hh⟩
theorem own_ne {w : World} {base e n base' e' n' : Nat} {v v' : Value} {xs xs' : List Value} (h : w.ownsRow base e 1 v n xs) (h' : w.ownsRow base' e' 1 v' n' xs') (hne : e ≠ e') : ∀ g, v.ownBlock = some g → v'.ownBlock ≠ some g := by
  intro g hg hg'
  obtain ⟨c, hc⟩ := own_type h hg
  obtain ⟨c', hc'⟩ := own_type h' hg'
  exact hc.ne hc' hne rfl

theorem own_ne_at {w : World} {base e n g t : Nat} {v : Value} {xs : List Value} {cs : Array Value} (h : w.ownsRow base e 1 v n xs) (hg : At w g t cs) (hne : e ≠ t) : some g ≠ v.ownBlock := by
  intro hv
  obtain ⟨cur, hc⟩ := own_type h hv.symm
  exact hc.ne hg hne rfl
theorem own_base {w : World} {base base' e size n : Nat} {v : Value} {xs : List Value} (h : w.ownsRow base e size v n xs) (hb : base' ≤ base) : w.ownsRow base' e size v n xs := by
  refine ⟨h.1, ?_⟩
  rcases h.2 with h2 | ⟨g, cap, cur, e, hg, r⟩
  · exact .inl h2
  · exact .inr ⟨g, cap, cur, e, Nat.le_trans hb hg, r⟩
/-- Each of the rows is the call's own, and no two share a block. -/
structure OwnL (base : Nat) (w : World) (ks : Rows_) : Prop where
  own : ∀ k ∈ ks, w.ownsRow base 5 1 (slOf k) k.2.2.length (k.2.2.map bv)
  apart : ks.Pairwise fun a b => ∀ g, (slOf a).ownBlock = some g → (slOf b).ownBlock ≠ some g
/-- The list itself: its row, and the rows. -/
structure OwnLL (base : Nat) (w : World) (v : Value) (ks : Rows_) : Prop where
  row : w.ownsRow base 34 1 v ks.length (ks.map slOf)
  each : OwnL base w ks
section
variable {base : Nat} {w w' : World} {v : Value} {ks : Rows_}
theorem OwnL.nil (base : Nat) (w : World) : OwnL base w [] := ⟨by simp, List.Pairwise.nil⟩
theorem OwnLL.nil (base : Nat) (w : World) : OwnLL base w (.slice none 0 0) [] := ⟨World.ownsRow_nil _ _ _ _, OwnL.nil _ _⟩
theorem OwnL.chg {S : Nat → Prop} (h : OwnL base w ks) (k : Chg S w w') (hS : ∀ x ∈ ks, ∀ g, (slOf x).ownBlock = some g → ¬ S g) : OwnL base w' ks :=
  ⟨fun x hx => own_chg (h.own x hx) k (hS x hx), h.apart⟩
theorem OwnL.new (h : OwnL base w ks) (k : Chg No w w') : OwnL base w' ks := h.chg k fun _ _ _ _ => id
theorem OwnLL.new (h : OwnLL base w v ks) (k : Chg No w w') : OwnLL base w' v ks := ⟨own_chg h.row k fun _ _ => id, h.each.new k⟩
theorem OwnLL.old {B : Nat} (h : OwnLL base w v ks) (k : Chg (From B) w w') (hb : w.heap.size ≤ B) : OwnLL base w' v ks :=
  ⟨own_chg h.row k fun g hg => by have := h.row.lt g hg; unfold From; omega, h.each.chg k fun x hx g hg => by have := (h.each.own x hx).lt g hg; unfold From; omega⟩
theorem OwnL.mono {base' : Nat} (h : OwnL base w ks) (hb : base' ≤ base) : OwnL base' w ks := by
  refine ⟨fun x hx => ?_, h.apart⟩
  obtain ⟨h1, h2⟩ := h.own x hx
  refine ⟨h1, ?_⟩
  rcases h2 with h2 | ⟨g, cap, cur, e, hg, r⟩
  · exact .inl h2
  · exact .inr ⟨g, cap, cur, e, Nat.le_trans hb hg, r⟩
/-- What lies there reads as the texts. -/
theorem OwnL.rd (h : OwnL base w ks) {x : Option Addr × Nat × List UInt8} (hx : x ∈ ks) : Rd w x.1 x.2.2 := RdV.of_own (h.own x hx)
theorem OwnLL.rdl (h : OwnLL base w v ks) : ∃ A c, v = .slice A ks.length c ∧ RdL w A ks ∧ ks.length ≤ c ∧ c ≤ maxLen ∧ ∀ b o, A = some ⟨b, o, none⟩ → base ≤ b := by
  obtain ⟨A, c, rfl, h1, h2, h3, h4⟩ := own_rd h.row
  exact ⟨A, c, rfl, ⟨h1, fun x hx => h.each.rd hx⟩, h2, h3, h4⟩
theorem OwnL.caps (h : OwnL base w ks) : ∀ k ∈ ks, k.2.2.length ≤ k.2.1 ∧ k.2.1 ≤ maxLen := fun k hk => by
  obtain ⟨A, c, e, _, h1, h2, _⟩ := own_rd (h.own k hk)
  unfold slOf at e
  injection e with _ _ e
  rw [e]
  exact ⟨h1, h2⟩
/-- One row more, of new memory. -/
theorem OwnL.snoc {base2 : Nat} (h : OwnL base w ks) {x : Option Addr × Nat × List UInt8} (hx : w.ownsRow base2 5 1 (slOf x) x.2.2.length (x.2.2.map bv)) (hb : base ≤ base2) (hlt : ∀ k ∈ ks, ∀ g, (slOf k).ownBlock = some g → g < base2) : OwnL base w (ks ++ [x]) := by
  refine ⟨fun k hk => ?_, ?_⟩
  · rcases List.mem_append.1 hk with h1 | h1
    · exact h.own k h1
    · simp at h1
      subst h1
      have hm : OwnL base2 w [k] := ⟨fun y hy => by simp at hy; subst hy; exact hx, by simp⟩
      exact (hm.mono hb).own k (by simp)
  · rw [List.pairwise_append]
    refine ⟨h.apart, by simp, fun a ha b hb' g hg hg' => ?_⟩
    simp at hb'
    subst hb'
    have h1 := hlt a ha g hg
    have h2 := (hx.lt g hg').1
    omega
theorem slOf_one (ks : Rows_) : ∀ u ∈ ks.map slOf, u.oneCell' = true := by
  intro u hu
  obtain ⟨k, _, rfl⟩ := List.mem_map.1 hu
  rfl
theorem own_sl {n : Nat} {l : List UInt8} (h : w.ownsRow base 5 1 v n (l.map bv)) : ∃ A c, v = .slice A l.length c ∧ n = l.length := by
  have hn : n = l.length := by simpa using h.1.symm
  subst hn
  obtain ⟨A, c, rfl, _⟩ := own_rd h
  exact ⟨A, c, rfl, rfl⟩
/-- What an append of one row to a list of rows leaves. -/
theorem OwnLL.appd {base2 : Nat} {x : Option Addr × Nat × List UInt8} {w1 : World} {v' : Value} (h : OwnLL base w v ks) (hx : w.ownsRow base2 5 1 (slOf x) x.2.2.length (x.2.2.map bv)) (hb : base ≤ base2)
    (hlt : ∀ k ∈ ks, ∀ g, (slOf k).ownBlock = some g → g < base2) (hap : Appd base 34 1 w v ks.length 1 (ks.map slOf ++ [slOf x]) v' w1) : OwnLL base w1 v' (ks ++ [x]) := by
  refine ⟨by simpa using hap.own, ?_⟩
  refine (h.each.snoc hx hb hlt).chg hap.chg fun y hy g hg => ?_
  intro e
  have hy' := (h.each.snoc hx hb hlt).own y hy
  exact own_ne hy' h.row (by decide) g hg e.symm
end

/-- A quiet call behind draws. -/
theorem quiet_add_same' {P : Program} {f : FuncId} {args : Array Value} {w : World} {a n : Nat} {v : Value}
    (h : Calls P f args (w.drewN (a + n)) fun e w' => e = .returned v ∧ w' = w.drewN (a + n)) : Calls P f args (w.drewN (a + n)) fun e w'' => e = .returned v ∧ ∃ m, w'' = w.drewN (a + m) :=
  h.mono fun _ _ ⟨he, hm⟩ => ⟨he, n, hm⟩
/-- Twins. -/
def Twinsd (ks : List (List UInt8)) (w : World) (e : Ending) (w' : World) : Prop := ∃ v rs, e = .returned v ∧ txt rs = ks ∧ OwnLL w.heap.size w' v rs ∧ Chg No w w'
set_option maxHeartbeats 1000000 in
theorem twins_any (A : Option Addr) (c : Nat) (ks : Rows_) (w : World) (h : RdL w A ks) (hl : ∀ k ∈ ks, k.2.2.length ≤ 140737488355328) (hks : ks.length ≤ 1000000) :
    Calls Try.prog 13 #[.slice A ks.length c] w (Twinsd (txt ks) w) := by
  obtain ⟨i0, hi, hz0, hz1, hz2⟩ := info_parts info_sl
  have HR := Lib.hid h
  have HL := Lib.hid hl
  have hmax : ks.length ≤ maxLen := by unfold maxLen; omega
  clear h hl
  go_enter Try.func13, Try.ntmps13
  go_wp2
  go_loopw [3, 4] (fun v i wr => ∃ k : Nat, k ≤ ks.length ∧ i = .int .i64 k ∧ ∃ rs, Hid (txt rs = txt (ks.take k) ∧ rs.length = k ∧ OwnLL w.heap.size wr v rs ∧ Chg No w wr)) (fun _ i _ => ks.length - (intOf i).toNat)
  case atStart => exact ⟨0, by omega, rfl, [], rfl, rfl, OwnLL.nil _ _, Chg.refl _ _⟩
  case round =>
    obtain ⟨k, hk, rfl, rs, HD⟩ := hrel
    by_cases hlt : k < ks.length
    · have hr := HR.out.new HD.out.2.2.2
      obtain ⟨⟨b, o, rfl, hc⟩, _⟩ := hr.get hlt
      have HX := Lib.hid (HL.out ks[k] (List.getElem_mem hlt))
      have HE := Lib.hid (hr.2 ks[k] (List.getElem_mem hlt))
      have HT : Hid (txt (ks.take (k + 1)) = txt (ks.take k) ++ [ks[k].2.2]) := by rw [List.take_succ_eq_append_getElem hlt, txt, List.map_append]; rfl
      clear hr
      generalize ks[k] = x at hc HX HE HT
      go_wp2_with fail
      refine (twin_any _ _ x.2.2 _ HE.out HX.out).mono ?_
      rintro e w2 ⟨v2, rfl, h2, k2⟩
      obtain ⟨A2, c2, rfl, _⟩ := own_sl h2
      have h2' := own_chg h2 ((Chg.refl No w2).alloc (.cells #[.slice A2 x.2.2.length c2] 34)) (fun _ _ => id)
      have H2 := Lib.hid h2'
      have K2 := Lib.hid ((HD.out.2.2.2.tr k2).alloc (.cells #[.slice A2 x.2.2.length c2] 34))
      have O2 := Lib.hid ((HD.out.2.2.1.new k2).new ((Chg.refl No w2).alloc (.cells #[.slice A2 x.2.2.length c2] 34)))
      have D2 : Hid (∀ y ∈ rs, ∀ g, (slOf y).ownBlock = some g → g < wr.heap.size) := fun y hy g hg => ((HD.out.2.2.1.each.own y hy).lt g hg).2
      have L2 : Hid (rs.length + 1 ≤ 1000000 ∧ w.heap.size ≤ wr.heap.size ∧ w.heap.size ≤ (w2.alloc (.cells #[.slice A2 x.2.2.length c2] 34)).heap.size) := ⟨by have := HD.out.2.1; omega, HD.out.2.2.2.size, K2.out.size⟩
      clear h2 h2' k2
      go_wp2_with (at_builtin; refine wpList_app rfl (.tmp 11) (.tmp 17) 22 rfl w.heap.size 34 i0 _ 1 24 Try.underlying22 hi hz0 hz1 hz2 rfl (by decide) u3 rs.length (rs.map slOf) rfl O2.out.row (some ⟨w2.heap.size, 0, none⟩) 1 1 [slOf (A2, c2, x.2.2)] rfl (RdV.lit w2 #[.slice A2 x.2.2.length c2] 34 (0, 0)) rfl (slOf_one [(A2, c2, x.2.2)]) (by have := L2.out.1; unfold maxLen; omega) (by have := L2.out.1; omega) L2.out.2.2 ?_; intro v3 w3 hap; have HA := Lib.hid hap; clear hap)
      go_roundw
      case rel =>
        refine ⟨k + 1, by omega, by go_num, rs ++ [(A2, c2, x.2.2)], ?_, by simp [HD.out.2.1], O2.out.appd H2.out L2.out.2.1 D2.out HA.out, HA.out.old K2.out O2.out.row (Nat.le_refl _)⟩
        rw [HT.out, ← HD.out.1, txt, List.map_append]
        rfl
      case measure => simp [intOf]; omega
    · have ht : ks.take k = ks := List.take_of_length_le (by omega)
      rw [ht] at HD
      clear ht
      go_wp2_with fail
      go_ret
      exact ⟨_, rs, rfl, HD.out.1, HD.out.2.2.1, HD.out.2.2.2⟩

/-- Lists: two lists of rows that read alike. -/
theorem lists_same (A B : Option Addr) (c d : Nat) (ks ls : Rows_) (w : World) (h : RdL w A ks) (h' : RdL w B ls) (he : txt ks = txt ls) (hks : ks.length ≤ 1000000) :
    Calls Try.prog 21 #[.slice A ks.length c, .slice B ls.length d] w fun e w' => e = .returned (.bool true) ∧ Chg No w w' := by
  have hlen : ls.length = ks.length := by have := congrArg List.length he; simpa [txt] using this.symm
  rw [hlen]
  have HR := Lib.hid h
  have HR' := Lib.hid h'
  have HE := Lib.hid he
  have HN := Lib.hid hlen
  clear h h' he hlen
  have hne : (((ks.length : Nat) : Int) != ((ks.length : Nat) : Int)) = false := by simp
  go_enter Try.func21, Try.ntmps21
  go_wp2
  go_loopw [5] (fun i wr => ∃ k : Nat, k ≤ ks.length ∧ i = .int .i64 k ∧ Hid (∃ n, wr = w.drewN n)) (fun i _ => ks.length - (intOf i).toNat)
  case atStart => exact ⟨0, by omega, rfl, 0, rfl⟩
  case round =>
    obtain ⟨k, hk, rfl, HD⟩ := hrel
    obtain ⟨n, hn⟩ := HD.out
    subst hn
    by_cases hlt : k < ks.length
    · have hlt' : k < ls.length := by have := HN.out; omega
      obtain ⟨⟨b, o, rfl, hc⟩, hx⟩ := HR.out.get hlt
      obtain ⟨⟨b', o', rfl, hc'⟩, hx'⟩ := HR'.out.get hlt'
      have hexy : ks[k].2.2 = ls[k].2.2 := by
        have := congrArg (fun l => l[k]?) HE.out
        simpa [txt, hlt, hlt'] using this
      have HXY := Lib.hid hexy
      have HX := Lib.hid hx
      have HX' := Lib.hid hx'
      clear hexy hx hx'
      generalize ks[k] = x at *
      generalize ls[k] = y at *
      have hk6 : k < 1000000 := by omega
      have hli : (k : Int) < ks.length := by omega
      have HQ : Hid (∀ W, Rd W x.1 x.2.2 → Rd W y.1 y.2.2 → Calls Try.prog 20 #[.slice x.1 x.2.2.length x.2.1, .slice y.1 y.2.2.length y.2.1] W fun e w' => e = .returned (.bool true) ∧ w' = W) := fun W h1 h2 => (same_any _ _ _ _ _ _ W h1 h2).mono fun e w' ⟨he, hw⟩ => ⟨by rw [he, HXY.out, beq_self_eq_true], hw.symm⟩
      go_wp2_with fail
      go_quiet ((go_at_call 20; exact quiet_add_same' (HQ.out _ (HX.out.drewN _) (HX'.out.drewN _))))
      go_wp2_with fail
      go_roundw
      case rel => exact ⟨k + 1, by omega, by go_num, _, rfl⟩
      case measure => simp [intOf]; omega
    · go_wp2_with fail
      go_ret
      exact ⟨rfl, (Chg.refl No w).drewN n⟩
end Go.Proofs.Ytghgmecaebheoaa
