/- WalCrash: the plain part. Batches that are appended until power goes off; what is found behind a crash. -/
import Derived.Test.YtjmapbhgjhlefaaQWalLaw
import Derived.Test.YtjmapbhgjhlefaaQSpSwitch
import Derived.Test.YtjmapbhgjhlefaaQSpChurn
namespace Go.Proofs.Ytjmapbhgjhlefaa
open Go.RowKit
set_option linter.unusedVariables false
set_option maxRecDepth 100000

/-- Frames tell just these batches, whatever comes behind them. -/
def Tel (F hs : List (List UInt8)) : Prop := ∀ fs, ∃ c, wholeFrom none (F ++ fs) = hs ++ wholeFrom c fs
theorem Tel.nil : Tel [] [] := fun fs => ⟨none, rfl⟩
theorem Tel.whole {F hs : List (List UInt8)} (h : Tel F hs) : whole F = hs := by
  obtain ⟨c, hc⟩ := h []
  rw [List.append_nil, wholeFrom_nil, List.append_nil] at hc
  exact hc
theorem Tel.put {F hs : List (List UInt8)} {b : List UInt8} (h : Tel F hs) (hb : b.length ≤ 262144) : Tel (F ++ split b) (hs ++ [b]) := fun fs => by
  obtain ⟨c, hc⟩ := h (split b ++ fs)
  refine ⟨none, ?_⟩
  rw [List.append_assoc, hc, wholeFrom_split b hb, List.append_assoc]
  rfl
theorem Tel.part {F hs : List (List UInt8)} {b : List UInt8} {k : Nat} (h : Tel F hs) (hb : b.length ≤ 262144) (hk : k < needN b.length) : Tel (F ++ (split b).take k) hs := fun fs => by
  obtain ⟨c, hc⟩ := h ((split b).take k ++ fs)
  obtain ⟨c2, hc2⟩ := wholeFrom_cut b hb k hk c fs
  refine ⟨c2, ?_⟩
  rw [List.append_assoc, hc, hc2]
/-- What is found behind a crash, of these frames the first q at least: a beginning of the batches, so many at least. -/
def Cra (F hs : List (List UInt8)) (safe q : Nat) : Prop := ∀ n, q ≤ n → n ≤ F.length → ∃ m, safe ≤ m ∧ m ≤ hs.length ∧ Tel (F.take n) (hs.take m)
theorem Cra.all {F hs : List (List UInt8)} (h : Tel F hs) : Cra F hs hs.length F.length := fun n h1 h2 => ⟨hs.length, Nat.le_refl _, Nat.le_refl _, by
  rw [List.take_of_length_le h1, List.take_length]; exact h⟩
theorem Cra.put {F hs : List (List UInt8)} {b : List UInt8} {safe q : Nat} (h : Cra F hs safe q) (ht : Tel F hs) (hs2 : safe ≤ hs.length) (hb : b.length ≤ 262144) : Cra (F ++ split b) (hs ++ [b]) safe q := fun n h1 h2 => by
  by_cases hn : n ≤ F.length
  · obtain ⟨m, m1, m2, m3⟩ := h n h1 hn
    refine ⟨m, m1, by rw [List.length_append]; omega, ?_⟩
    rw [List.take_append_of_le_length hn, List.take_append_of_le_length m2]
    exact m3
  · rw [List.length_append, split_len] at h2
    by_cases hk : n - F.length < needN b.length
    · refine ⟨hs.length, hs2, by rw [List.length_append]; omega, ?_⟩
      rw [List.take_append_of_le_length (Nat.le_refl _), List.take_length, List.take_append, List.take_of_length_le (by omega)]
      exact ht.part hb hk
    · refine ⟨hs.length + 1, by omega, by rw [List.length_append]; simp, ?_⟩
      rw [List.take_of_length_le (by rw [List.length_append, split_len]; omega), List.take_of_length_le (by rw [List.length_append]; simp)]
      exact ht.put hb
theorem Cra.sub {F G hs : List (List UInt8)} {safe q j : Nat} (h : Cra (F ++ G) hs safe q) : Cra (F ++ G.take j) hs safe q := fun n h1 h2 => by
  have e : (F ++ G.take j).take n = (F ++ G).take n := by
    rw [List.length_append, List.length_take] at h2
    rw [List.take_append, List.take_append, List.take_take, Nat.min_eq_left (by omega)]
  rw [e]
  exact h n h1 (by rw [List.length_append] at h2 ⊢; rw [List.length_take] at h2; omega)

/-- The space of the law: one file, what it holds. -/
def wcS (bn l : Nat) (F : List (List UInt8)) : Spc := ⟨0, 2, [⟨1, 2, bn, 2, l, F⟩]⟩
theorem wc_find (bn l : Nat) (F : List (List UInt8)) : (wcS bn l F).find 1 = some ⟨1, 2, bn, 2, l, F⟩ := rfl
theorem wc_grow (bn l : Nat) (F ps : List (List UInt8)) : (wcS bn l F).growL 1 ps = wcS bn l (F ++ ps) := rfl
theorem wc_grow1 (bn l : Nat) (F : List (List UInt8)) (p : List UInt8) : (wcS bn l F).grow 1 p = wcS bn l (F ++ [p]) := rfl
section
variable {D : Dk} {S : Spc} {sf : Nat → Nat} {lim n m l bn : Nat} {F hs : List (List UInt8)} {b p : List UInt8}
/-- Frames are laid until power goes off. -/
theorem apps_off : ∀ (ps : List (List UInt8)) {F : List (List UInt8)} {D : Dk}, Good D (wcS bn l F) sf lim → (∀ p ∈ ps, p.length ≤ 480) → F.length + ps.length ≤ bn → 1 ≤ D.armed → D.armed ≤ ps.length →
    ∃ S' D' Dv j, Spc.appsL 1 ps (wcS bn l F) D = (S', D', 21) ∧ Good Dv (wcS bn l (F ++ ps.take j)) sf lim ∧ (∀ keep torn bytes, D'.crash keep torn bytes = Dv.crash keep torn bytes) ∧ (∀ m, Cnt D m → Cnt D' (m + ps.length)) ∧ D'.cells.length = D.cells.length
  | [], F, D, hg, hp, hl, h1, ha => by
    simp at ha
    omega
  | p :: ps, F, D, hg, hp, hl, h1, ha => by
    rw [List.length_cons] at hl ha
    have h := append_cases hg 1 p
    cases h with
    | none h1 e => rw [wc_find] at h1; cases h1
    | long f' h1 h2 e => have := hp p List.mem_cons_self; omega
    | full f' h1 h2 h3 e =>
      rw [wc_find] at h1
      injection h1 with h1
      subst h1
      have h3' : F.length = bn := h3
      omega
    | off f' h1 h2 h3 h4 e =>
      obtain ⟨hm, _⟩ := find_mem h1
      have hg2 := good_append hg hm (p := p) (by omega) (by omega)
      rw [wc_find] at h1
      injection h1 with h1
      subst h1
      refine ⟨_, _, D.wr (2 + F.length) (frameB 2 l p), 1, by rw [appsL_cons, e]; exact if_neg (by simp), hg2, fun keep torn bytes => took_crash _ _ _ _ _ _, fun m hm => hm.took.mono (by rw [List.length_cons]; omega), rfl⟩
    | ok f' h1 h2 h3 h4 e g =>
      rw [wc_find] at h1
      injection h1 with h1
      subst h1
      rw [e] at g
      have g2 : Good (D.wr (2 + F.length) (frameB 2 l p)) (wcS bn l (F ++ [p])) sf lim := g
      have e2 : Spc.appsL 1 (p :: ps) (wcS bn l F) D = Spc.appsL 1 ps (wcS bn l (F ++ [p])) (D.wr (2 + F.length) (frameB 2 l p)) := by
        rw [appsL_cons, e]
        exact if_pos rfl
      obtain ⟨S', D', Dv, j, i1, i2, i3, i4, i5⟩ := apps_off ps g2 (fun q hq => hp q (List.mem_cons_of_mem _ hq)) (by rw [List.length_append]; simp; omega) (by rw [wr_armed]; omega) (by rw [wr_armed]; omega)
      refine ⟨S', D', Dv, j + 1, e2.trans i1, ?_, i3, fun m hm => (i4 _ hm.wr).mono (by rw [List.length_cons]; omega), i5⟩
      rw [List.take_succ_cons]
      rw [List.append_assoc] at i2
      exact i2
/-- A batch for the file: no room, laid whole, or power went off. -/
theorem wc_put (hg : Good D (wcS bn l F) sf lim) (hb : b.length ≤ 262144) :
    (wcS bn l F).wapp 1 b D = (wcS bn l F, D, 41) ∨
    (∃ D', (wcS bn l F).wapp 1 b D = (wcS bn l (F ++ split b), D', 0) ∧ Good D' (wcS bn l (F ++ split b)) sf lim ∧ (∀ m, Cnt D m → Cnt D' (m + 548)) ∧ D'.cells.length = D.cells.length ∧ D'.armed ≤ D.armed) ∨
    (∃ S' D' Dv j, (wcS bn l F).wapp 1 b D = (S', D', 21) ∧ Good Dv (wcS bn l (F ++ (split b).take j)) sf lim ∧ (∀ keep torn bytes, D'.crash keep torn bytes = Dv.crash keep torn bytes) ∧ (∀ m, Cnt D m → Cnt D' (m + 548)) ∧ D'.cells.length = D.cells.length) := by
  by_cases hr : bn < F.length + needN b.length
  · exact .inl (wapp_no (wc_find bn l F) hb hr)
  · right
    have h1 := split_len b
    have h2 := needN_le b.length
    have e : (wcS bn l F).wapp 1 b D = Spc.appsL 1 (split b) (wcS bn l F) D := by
      unfold Spc.wapp
      rw [wc_find]
      simp only
      rw [if_neg (by omega), if_neg (by omega)]
    by_cases ha : D.armed = 0 ∨ (split b).length < D.armed
    · left
      obtain ⟨D', e1, g, c, k, a⟩ := apps_yes (split b) hg (wc_find bn l F) (fun p hp => split_each hp) (by show F.length + _ ≤ bn; omega) ha
      exact ⟨D', e.trans e1, g, fun m h => (c m h).mono (by omega), k, by rw [a]; omega⟩
    · right
      obtain ⟨S', D', Dv, j, i1, i2, i3, i4, i5⟩ := apps_off (split b) hg (fun p hp => split_each hp) (by omega) (by omega) (by omega)
      exact ⟨S', D', Dv, j, e.trans i1, i2, i3, fun m h => (i4 m h).mono (by omega), i5⟩
/-- Behind a crash. -/
theorem wc_crash {safe : Nat} (hg : Good D (wcS bn l F) sf lim) (hlim : lim + 1 ≤ 1000000000) (hc : Cra F hs safe (sf 1)) (keep : List Bool) (torn bytes : Int) :
    ∃ l' F' m sg, openX (D.crash keep torn bytes) = (some (wcS bn l' F'), 0) ∧ Good (D.crash keep torn bytes) (wcS bn l' F') sg (lim + 1) ∧ safe ≤ m ∧ m ≤ hs.length ∧ Tel F' (hs.take m) ∧ Cra F' (hs.take m) m (sg 1) ∧ F'.length ≤ F.length := by
  obtain ⟨gs, e1, e2, e3⟩ := found_crash hg hlim (came_crash (keep := keep) (torn := torn) (bytes := bytes) hg.fils.wf)
  match gs, e2 with
  | [g], ⟨⟨h1, h2, h3, h4, n, h5, h6, h7⟩, _⟩ =>
    obtain ⟨gn, gf, gb, gi, gl, gr⟩ := g
    simp only at h1 h2 h3 h4 h7
    subst h1; subst h2; subst h3; subst h4; subst h7
    obtain ⟨m, m1, m2, m3⟩ := hc n h5 h6
    have m4 := Cra.all m3
    have h8 : (hs.take m).length = m := by rw [List.length_take]; omega
    rw [h8] at m4
    exact ⟨gl, F.take n, m, _, e1, e3, m1, m2, m3, m4, by rw [List.length_take]; omega⟩
end
/-- While power is on: the space, what is told, what is safe. -/
structure WcIn (bn l : Nat) (D : Dk) (F hs : List (List UInt8)) (safe lim cnt : Nat) : Prop where
  good : ∃ sf, Good D (wcS bn l F) sf lim ∧ Cra F hs safe (sf 1)
  tel : Tel F hs
  safe : safe ≤ hs.length
  cnt : Cnt D cnt
  armed : D.armed ≤ 64
/-- Behind a crash, whatever is kept and torn. -/
def WcOut (bn : Nat) (D : Dk) (hs : List (List UInt8)) (safe lim : Nat) : Prop := ∀ (keep : List Bool) (torn bytes : Int), ∃ l' F' m,
  openX (D.crash keep torn bytes) = (some (wcS bn l' F'), 0) ∧ (∃ sg, Good (D.crash keep torn bytes) (wcS bn l' F') sg (lim + 1) ∧ Cra F' (hs.take m) m (sg 1)) ∧ safe ≤ m ∧ m ≤ hs.length ∧ Tel F' (hs.take m)
section
variable {D : Dk} {bn l safe lim cnt : Nat} {F hs : List (List UInt8)} {b : List UInt8}
theorem WcIn.wcOut (h : WcIn bn l D F hs safe lim cnt) (hlim : lim + 1 ≤ 1000000000) : WcOut bn D hs safe lim := fun keep torn bytes => by
  obtain ⟨sf, hg, hc⟩ := h.good
  obtain ⟨l', F', m, sg, h1, h2, h3, h4, h5, h6, _⟩ := wc_crash hg hlim hc keep torn bytes
  exact ⟨l', F', m, h1, ⟨sg, h2, h6⟩, h3, h4, h5⟩
theorem WcIn.put (h : WcIn bn l D F hs safe lim cnt) (hlim : lim + 1 ≤ 1000000000) (hb : b.length ≤ 262144) :
    (wcS bn l F).wapp 1 b D = (wcS bn l F, D, 41) ∨
    (∃ D', (wcS bn l F).wapp 1 b D = (wcS bn l (F ++ split b), D', 0) ∧ WcIn bn l D' (F ++ split b) (hs ++ [b]) safe lim (cnt + 548) ∧ D'.cells.length = D.cells.length) ∨
    (∃ S' D', (wcS bn l F).wapp 1 b D = (S', D', 21) ∧ WcOut bn D' (hs ++ [b]) safe lim ∧ Cnt D' (cnt + 548) ∧ D'.cells.length = D.cells.length) := by
  obtain ⟨sf, hg, hc⟩ := h.good
  have hc2 := hc.put h.tel h.safe hb
  rcases wc_put hg hb with e | ⟨D', e, g, c, k, a⟩ | ⟨S', D', Dv, j, e, g, cr, c, k⟩
  · exact .inl e
  · exact .inr (.inl ⟨D', e, ⟨⟨sf, g, hc2⟩, h.tel.put hb, by rw [List.length_append]; have := h.safe; omega, c _ h.cnt, by have := h.armed; omega⟩, k⟩)
  · refine .inr (.inr ⟨S', D', e, fun keep torn bytes => ?_, c _ h.cnt, k⟩)
    obtain ⟨l', F', m, sg, h1, h2, h3, h4, h5, h6, _⟩ := wc_crash g hlim (Cra.sub (j := j) hc2) keep torn bytes
    rw [← cr] at h1 h2
    exact ⟨l', F', m, h1, ⟨sg, h2, h6⟩, h3, h4, h5⟩
theorem WcIn.sync (h : WcIn bn l D F hs safe lim cnt) : D.flush.2 = 0 ∧ WcIn bn l D.flush.1 F hs hs.length lim cnt ∧ D.flush.1.cells.length = D.cells.length := by
  obtain ⟨sf, hg, hc⟩ := h.good
  have ho := hg.fils.off
  have h0 : D.flush.2 = 0 := by rw [flush_on D ho]
  exact ⟨h0, ⟨⟨_, good_flush hg, Cra.all h.tel⟩, h.tel, Nat.le_refl _, h.cnt.flush ho, by rw [flush_armed ho]; exact h.armed⟩, (came_flush hg.fils.wf ho).len⟩
/-- Armed anew. -/
theorem WcIn.arm {n : Nat} (h : WcIn bn l D F hs safe lim cnt) (hn : n ≤ 64) : WcIn bn l { D with armed := n } F hs safe lim cnt := by
  obtain ⟨sf, hg, hc⟩ := h.good
  exact ⟨⟨sf, good_armed hg n, hc⟩, h.tel, h.safe, ⟨h.cnt.writes, h.cnt.pend⟩, hn⟩
end
/-- The space as the law begins it. -/
theorem wc_begin {N bn : Nat} (hN : 3 ≤ N ∧ N ≤ 65536) (hb : 1 ≤ bn ∧ bn ≤ N - 2) : ∃ D, (Spc.mk 1 1 []).switch [⟨1, 0, bn⟩] [] (beginD N) = (wcS bn 1 [], D, 0) ∧ WcIn bn 1 D [] [] 0 2 2 ∧ D.cells.length = N := by
  have hg0 : Good (beginD N) ⟨1, 1, []⟩ (fun _ => 0) 1 := begin_good (by omega) (by omega)
  have hfind : ∀ x, (Spc.mk 1 1 []).find x = none := fun x => rfl
  have hmay : (Spc.mk 1 1 []).may [⟨1, 0, bn⟩] [] = true := by
    have h3 : (1 : Int) ≤ bn := by omega
    simp [Spc.may, Spc.mayDrop, Spc.mayAdd, hfind, h3]
  have hadd : addX (beginD N).cells.length ((Spc.mk 1 1 []).turn + 1) [⟨1, 0, bn⟩] (Spc.mk 1 1 []).lie ((Spc.mk 1 1 []).files.filter fun f => !([] : List Int).contains (f.num : Int)) = some (wcS bn 1 []).files := by
    show addX _ 2 [⟨1, 0, bn⟩] [] [] = _
    rw [begin_len, addX_yes (place_one (by show (1 : Int) ≤ (bn : Int); omega) (by show (bn : Int) ≤ _; omega))]
    rfl
  obtain ⟨D, e, g, c, k, a⟩ := sw_ok hg0 (by omega) (by rw [begin_armed]; decide) hmay (by show (0 : Int) + 1 - 0 ≤ 24; decide) hadd
  have e' : (Spc.mk 1 1 []).switch [⟨1, 0, bn⟩] [] (beginD N) = (wcS bn 1 [], D, 0) := e
  have g' : Good D (wcS bn 1 []) (lenAt (wcS bn 1 []).files) 2 := g
  exact ⟨D, e', ⟨⟨_, g', Cra.all Tel.nil⟩, Tel.nil, Nat.le_refl _, c _ begin_cnt, by rw [a, begin_armed]; omega⟩, k.trans begin_len⟩
end Go.Proofs.Ytjmapbhgjhlefaa
