/- TablePieces: the laws' opened; a range in two pieces. -/
import Derived.Test.YtaoenbjfkahdjaaQ22
namespace Go.Proofs.Ytaoenbjfkahdjaa
open Go.RowKit
set_option linter.unusedVariables false
set_option maxRecDepth 100000

theorem opened7_any (A : Option Addr) (c : Nat) (es : List En) (L : List Ent) (hL : es.map En.ent = L) (hb : buildE L = 0) (hs : ∀ e ∈ L, e.seq < 9223372036854775808) (w : World) (h : RdV w A (es.flatMap enV)) (hr : EnsR w es) (hc : es.length ≤ c) (hm : c ≤ maxLen) (hcap : ∀ y ∈ es, CapE y) :
    Calls Try.prog 32 #[.slice A es.length c] w fun x w' => ∃ (T : Nat) (es' : List En), x = .returned (.pointer (some ⟨T, 0, none⟩)) ∧ es'.map En.ent = L ∧ TabR w' T es' ∧ Chg No w w' := by
  have HB := Lib.hid (bld7 A c es L hL hb hs w h hr hc hm hcap)
  have HO := fun (B : Option Addr) (d : Nat) (W : World) => opn7 B (buildB L).length d L hb hs W rfl
  obtain ⟨n, hn⟩ : ∃ n, (buildB L).length = n := ⟨_, rfl⟩
  unfold Laid7 at HB
  rw [hn] at HB HO
  have HOp := Lib.hid HO
  clear HO h hr hcap hn hb hs
  go_enter Try.func32, Try.ntmps32
  go_wp2_with (first
    | (go_at_call 14; (with_reducible refine HB.out.mono ?_); rintro x w1 ⟨B, d, rfl, q1, q2, q3⟩; have H1 := Lib.hid q1; have H2 := Lib.hid q2; have H3 : Hid (Rd w1 B (buildB L)) := Lib.hid q3.row_rdK; have H4 := Lib.hid q3.chg; clear q1 q2 q3)
    | (go_at_call 15; (with_reducible refine (HOp.out B d w1 H3.out H1.out H2.out).mono ?_); rintro x w2 ⟨T, es', rfl, q1, q2, q3⟩; have HL := Lib.hid q1; have HT := Lib.hid q2; have HC := Lib.hid (H4.out.tr q3); clear q1 q2 q3)
    | (go_at_call 28; (with_reducible refine (tnum_any _ _).mono ?_); rintro e wx ⟨rfl, rfl⟩))
  go_ret
  exact ⟨T, es', rfl, HL.out, HT.out, HC.out⟩
/-- A range cut in two. -/
theorem less_sw {a b : List UInt8} (h : Op.bytesLess b a = false) : Lib.compareBytes a b < 0 ∨ a = b := by
  rw [cb_less, decide_eq_false_iff_not] at h
  have h2 := cb_swap a b
  rcases Int.lt_trichotomy (Lib.compareBytes a b) 0 with q | q | q
  · exact .inl q
  · exact .inr (cb_eq q)
  · omega
theorem less_trans {a b c : List UInt8} (h : Op.bytesLess b a = false) (k : Op.bytesLess c b = false) : Op.bytesLess c a = false := by
  rcases less_sw h with q | q
  · rcases less_sw k with r | r
    · have := cb_trans q r
      have h2 := cb_swap a c
      rw [cb_less, decide_eq_false_iff_not]
      omega
    · rw [← r]; exact h
  · rw [q]; exact k
theorem less_mid {a b x : List UInt8} (h : Op.bytesLess b a = false) (k : Op.bytesLess x a = true) : Op.bytesLess x b = true := by
  cases hx : Op.bytesLess x b with
  | true => rfl
  | false => rw [less_trans h hx] at k; cases k
theorem pieces_eq {a b c : List UInt8} (hab : Op.bytesLess b a = false) (hbc : Op.bytesLess c b = false) (hb : b ≠ []) (hc : c ≠ []) : ∀ {L : List Ent}, L.Pairwise LTE → rngL a c L = rngL a b L ++ rngL b c L
  | [], _ => rfl
  | x :: L, h => by
    have ih := pieces_eq hab hbc hb hc (List.pairwise_cons.1 h).2
    unfold rngL at ih ⊢
    by_cases hx : Op.bytesLess x.key b = true
    · have h1 : inR b c x = false := by unfold inR; rw [hx]; rfl
      have h2 : Op.bytesLess x.key c = true := less_mid hbc hx
      have h3 : inR a c x = inR a b x := by unfold inR; rw [decide_eq_false hb, decide_eq_false hc, hx, h2]
      rw [List.filter_cons, List.filter_cons, List.filter_cons, h1, h3, ih]
      split <;> simp
    · have hx : Op.bytesLess x.key b = false := by simpa using hx
      have hall : ∀ y ∈ x :: L, Op.bytesLess y.key b = false := by
        intro y hy
        rcases List.mem_cons.1 hy with rfl | hy
        · exact hx
        · have h4 := (List.pairwise_cons.1 h).1 y hy
          rw [lte_iff] at h4
          rcases h4 with h4 | ⟨h4, _⟩
          · refine less_trans hx ?_
            have h5 := cb_swap x.key y.key
            rw [cb_less, decide_eq_false_iff_not]
            omega
          · rw [← h4]; exact hx
      have h1 : (x :: L).filter (inR a b) = [] := List.filter_eq_nil_iff.2 fun y hy => by
        unfold inR
        rw [decide_eq_false hb, hall y hy]
        simp
      rw [h1, List.nil_append]
      refine List.filter_congr fun y hy => ?_
      unfold inR
      rw [hall y hy, less_trans hab (hall y hy)]
/-- Alike, with what is held. -/
theorem alike7 (A B : Option Addr) (c d : Nat) (es fs : List En) (w : World) (he : es.map En.ent = fs.map En.ent) (h : RdV w A (es.flatMap enV)) (hr : EnsR w es) (k : RdV w B (fs.flatMap enV)) (kr : EnsR w fs) (hc : es.length ≤ c) (hm : c ≤ maxLen) (hd : fs.length ≤ d) (hn : d ≤ maxLen) :
    Calls Try.prog 19 #[.slice A es.length c, .slice B fs.length d] w (Asked true w) := by
  have h1 := alike_any A B c d es fs w h hr k kr hc hm hd hn
  rw [(alike_iff _ _).2 he] at h1
  exact h1
theorem ownedE : ∀ es : List En, Owned (OwnE es)
  | [] => owned_emp
  | _ :: es => owned_star (owned_row _ _ _ _ _) (owned_star (owned_row _ _ _ _ _) (ownedE es))
/-- Range, with what is held. -/
def RngH (w0 w : World) (F : SP) (l : List Ent) (x : Ending) (w' : World) : Prop := ∃ (es : List En) (A : Option Addr) (c : Nat), x = .returned (.slice A es.length c) ∧ es.map En.ent = l ∧ es.length ≤ c ∧ c ≤ maxLen ∧ Sat w0 (Row 34 4 (.slice A es.length c) es.length (es.flatMap enV) * (OwnE es * F)) w' ∧ Chg No w w'
theorem rangeH (F T : Slc) (Tb : Nat) (es : List En) (L : List Ent) (hL : es.map En.ent = L) (hs : ∀ e ∈ L, e.seq < 9223372036854775808) (w0 w : World) (G : SP) (hG : Sat w0 G w) (hf : Rd w F.1 F.2.2) (ht : Rd w T.1 T.2.2) (h : TabR w Tb es) :
    Calls Try.prog 16 #[.pointer (some ⟨Tb, 0, none⟩), .slice F.1 F.2.2.length F.2.1, .slice T.1 T.2.2.length T.2.1] w (RngH w0 w G (rngL F.2.2 T.2.2 L)) := by
  have hp := sorted_pw (buildE_sorted h.ok)
  rw [hL] at hp
  refine (trange_any F T Tb es w hf ht h).mono ?_
  rintro x w' ⟨fs, A, c, rfl, h1, h2⟩
  rw [hL, rngT_eq hp (fun x hx => by have := hs x hx; unfold topSeq; omega)] at h1
  obtain ⟨A', c', e1, h3, h4⟩ := h2.row_sl
  injection e1 with e1 _ e2
  subst e1; subst e2
  refine ⟨fs, A, c, rfl, h1, h3, h4, (hG.join h2 (owned_star (owned_row _ _ _ _ _) (ownedE fs))).of (by rw [star_assoc]), h2.chg⟩
theorem RngH.ens {w0 w' : World} {A : Option Addr} {c : Nat} {es : List En} {F : SP} (h : Sat w0 (Row 34 4 (.slice A es.length c) es.length (es.flatMap enV) * (OwnE es * F)) w') : EnsR w' es := ownE_r h.right
/-- What is known of a key. -/
def KeyIn (w : World) (k : Slc) : Prop := Rd w k.1 k.2.2 ∧ k.2.2.length ≤ 140737488351232
theorem less_no {a b : List UInt8} (h : Op.bytesLess b a = true) : Op.bytesLess a b = false := by
  rw [cb_less, decide_eq_true_eq] at h
  rw [cb_less, decide_eq_false_iff_not]
  have := cb_swap a b
  omega
theorem str_gtr (l m : List UInt8) : ∃ (SA SB : ByteArray) (X Y : Bool), SA = ByteArray.mk l.toArray ∧ SB = ByteArray.mk m.toArray ∧ Op.bytesLess SA.toList SB.toList = X ∧ (SA.toList == SB.toList) = Y ∧ Op.bytesLess m l = (!X && !Y) := by
  refine ⟨_, _, _, _, rfl, rfl, rfl, rfl, ?_⟩
  rw [str_beq]
  simp only [cb_less]
  have h1 : (ByteArray.mk l.toArray).toList = l := by simp
  have h2 : (ByteArray.mk m.toArray).toList = m := by simp
  rw [h1, h2]
  have h3 := cb_swap l m
  by_cases h : l = m
  · subst h
    rw [cb_refl]
    simp
  · have h4 : Lib.compareBytes l m ≠ 0 := fun q => h (cb_eq q)
    rw [decide_eq_false h]
    by_cases h5 : Lib.compareBytes l m < 0
    · rw [decide_eq_true h5, decide_eq_false (by omega)]
      rfl
    · rw [decide_eq_false h5, decide_eq_true (by omega)]
      rfl
theorem rngL_len (a b : List UInt8) (L : List Ent) : (rngL a b L).length ≤ L.length := List.length_filter_le _ _
theorem ens_app {w : World} {a b : List En} (h : EnsR w a) (k : EnsR w b) : EnsR w (a ++ b) := fun x hx => (List.mem_append.1 hx).elim (h x) (k x)
theorem pieces_alike {w3 w9 : World} {F : SP} {f1 f2 f3 : List En} {A8 F3 F1 F2 : Option Addr} {c8 fc3 fc1 fc2 : Nat} {L1 L2 L3 : List Ent} (h1 : f1.map En.ent = L1) (h2 : f2.map En.ent = L2) (h3 : f3.map En.ent = L3) (h : L3 = L1 ++ L2)
    (hs : Sat w3 (Row 34 4 (.slice F3 f3.length fc3) f3.length (f3.flatMap enV) * (OwnE f3 * (Row 34 4 (.slice A8 (f1.length + f2.length) c8) (f1.length + f2.length) (f1.flatMap enV ++ f2.flatMap enV) * (Row 34 4 (.slice F2 f2.length fc2) f2.length (f2.flatMap enV) * (OwnE f2 * (Row 34 4 (.slice F1 f1.length fc1) f1.length (f1.flatMap enV) * (OwnE f1 * F))))))) w9) (hc : f3.length ≤ fc3) (hm : fc3 ≤ maxLen) :
    Calls Try.prog 19 #[.slice F3 f3.length fc3, .slice A8 (f1.length + f2.length) c8] w9 (Asked true w9) := by
  have r3 := ownE_r hs.right
  have r2 := ownE_r hs.right.right.right.right
  have r1 := ownE_r hs.right.right.right.right.right.right
  have r8 := hs.right.right.row_rdK
  obtain ⟨A', c', e1, h4, h5⟩ := hs.right.right.row_sl
  injection e1 with e1 _ e2
  subst e1; subst e2
  have h9 := alike7 F3 A8 fc3 c8 f3 (f1 ++ f2) w9 (by rw [List.map_append, h1, h2, h3, h]) hs.row_rdK r3 (by rw [ents_app]; exact r8) (ens_app r1 r2) hc hm (by rw [List.length_append]; exact h4) h5
  rw [List.length_append] at h9
  exact h9
set_option maxRecDepth 100000 in
set_option maxHeartbeats 4000000 in
theorem tablePieces_walk (A : Option Addr) (cap : Nat) (l : List En) (aA : Option Addr) (ac : Nat) (al : List UInt8) (bA : Option Addr) (bc : Nat) (bl : List UInt8) (cA : Option Addr) (cc : Nat) (cl : List UInt8) (w : World) (hl : EnsIn w A cap l)
    (ha : al.length ≤ ac ∧ ac ≤ maxLen ∧ Rd w aA al ∧ al.length ≤ 140737488351232 ∧ (aA = none → ac = 0)) (hb : bl.length ≤ bc ∧ bc ≤ maxLen ∧ Rd w bA bl ∧ bl.length ≤ 140737488351232 ∧ (bA = none → bc = 0)) (hc : cl.length ≤ cc ∧ cc ≤ maxLen ∧ Rd w cA cl ∧ cl.length ≤ 140737488351232 ∧ (cA = none → cc = 0)) :
    Calls Try.prog 7 #[.slice A l.length cap, .slice aA al.length ac, .slice bA bl.length bc, .slice cA cl.length cc] w (Asked true w) := by
  have HR := Lib.hid (row7_any A cap l w hl)
  have hi := hl.2.2.2.2
  obtain ⟨L, hL⟩ : ∃ L, L = rowL (l.map En.ent) := ⟨_, rfl⟩
  have HB : Hid (buildE L = 0) := by rw [hL]; exact rowL_ok _ fun e he => by obtain ⟨x, hx, rfl⟩ := List.mem_map.1 he; exact (hi x hx).s
  have HSq : Hid (∀ e ∈ L, e.seq < 9223372036854775808) := by rw [hL]; exact rowL_seq fun e he => by obtain ⟨x, hx, rfl⟩ := List.mem_map.1 he; exact (hi x hx).s
  have hLl : L.length ≤ 60 := by rw [hL]; exact rowL_len _
  have HPw : Hid (L.Pairwise LTE) := by rw [hL]; exact rowL_pw _
  rw [← hL] at HR
  have HKa : Hid (KeyIn w (aA, ac, al)) := ⟨ha.2.2.1, ha.2.2.2.1⟩
  have HKb : Hid (KeyIn w (bA, bc, bl)) := ⟨hb.2.2.1, hb.2.2.2.1⟩
  have HKc : Hid (KeyIn w (cA, cc, cl)) := ⟨hc.2.2.1, hc.2.2.2.1⟩
  clear hl hi hL ha hb hc
  go_enter Try.func7, Try.ntmps7
  go_upto_region 4 with (first
    | (go_at_call 10; (with_reducible refine HR.out.mono ?_); rintro x w1 ⟨es, A1, c1, rfl, q1, q2, q3, q4, q5, q6, q7⟩; have HO := Lib.hid (opened7_any A1 c1 es L q1 HB.out HSq.out w1 q4 q5 q2 q3 q6); have HC1 := Lib.hid q7; clear q1 q2 q3 q4 q5 q6 q7)
    | (go_at_call 32; (with_reducible refine HO.out.mono ?_); rintro x w2 ⟨T, es', rfl, q1, q2, q3⟩; have HL := Lib.hid q1; have HT := Lib.hid q2; have HC2 := Lib.hid (HC1.out.tr q3); clear q1 q2 q3)
    | (go_at_call 30; (with_reducible refine (wakes7_any w2).mono ?_); rintro x w3 ⟨rfl, q1⟩; have HT3 := Lib.hid (HT.out.new q1); have HC3 := Lib.hid (HC2.out.tr q1); clear q1))
  obtain ⟨SA, SB, X, Y, e1, e2, e3, e4, e5⟩ := str_gtr al bl
  have s1 := str_any (HKa.out.1.new HC3.out) ac
  have s2 := str_any (HKb.out.1.new HC3.out) bc
  rw [← e1] at s1
  rw [← e2] at s2
  have HB4 := Lib.hid e5
  clear e1 e2 e5
  go_upto_if 24 with fail
  go_cut [1, 2] (fun va vb wx => ∃ a b : Slc, va = .slice a.1 a.2.2.length a.2.1 ∧ vb = .slice b.1 b.2.2.length b.2.1 ∧ Hid (wx = w3 ∧ KeyIn w a ∧ KeyIn w b ∧ Op.bytesLess b.2.2 a.2.2 = false))
  case first =>
    cases X <;> cases Y
    all_goals
      go_wp2_with fail
      go_meet
    · exact ⟨(bA, bc, bl), (aA, ac, al), rfl, rfl, rfl, HKb.out, HKa.out, less_no HB4.out⟩
    all_goals exact ⟨(aA, ac, al), (bA, bc, bl), rfl, rfl, rfl, HKa.out, HKb.out, HB4.out⟩
  case rest =>
    clear s1 s2 e3 e4 HB4 HKa HKb
    obtain ⟨⟨a1A, a1c, a1l⟩, ⟨b1A, b1c, b1l⟩, e1, e2, hcut⟩ := hcut
    subst e1; subst e2
    have H1 := hcut
    have hw := hcut.out.1.symm
    subst hw
    clear hcut
    obtain ⟨SA, SB, X, Y, e1, e2, e3, e4, e5⟩ := str_gtr b1l cl
    have s1 := str_any (H1.out.2.2.1.1.new HC3.out) b1c
    have s2 := str_any (HKc.out.1.new HC3.out) cc
    rw [← e1] at s1
    rw [← e2] at s2
    have HB4 := Lib.hid e5
    clear e1 e2 e5
    go_upto_if 31 with fail
    go_cut [2, 3] (fun vb vc wx => ∃ b c : Slc, vb = .slice b.1 b.2.2.length b.2.1 ∧ vc = .slice c.1 c.2.2.length c.2.1 ∧ Hid (wx = w3 ∧ KeyIn w b ∧ KeyIn w c ∧ Op.bytesLess c.2.2 b.2.2 = false ∧ Op.bytesLess c.2.2 a1l = false))
    case first =>
      cases X <;> cases Y
      all_goals
        go_wp2_with fail
        go_meet
      · exact ⟨(cA, cc, cl), (b1A, b1c, b1l), rfl, rfl, rfl, HKc.out, H1.out.2.2.1, less_no HB4.out, H1.out.2.2.2⟩
      all_goals exact ⟨(b1A, b1c, b1l), (cA, cc, cl), rfl, rfl, rfl, H1.out.2.2.1, HKc.out, HB4.out, less_trans H1.out.2.2.2 HB4.out⟩
    case rest =>
      clear s1 s2 e3 e4 HB4 HKc
      obtain ⟨⟨b2A, b2c, b2l⟩, ⟨c2A, c2c, c2l⟩, e1, e2, hcut⟩ := hcut
      subst e1; subst e2
      have H2 := hcut
      have hw := hcut.out.1.symm
      subst hw
      clear hcut
      obtain ⟨SA, SB, X, Y, e1, e2, e3, e4, e5⟩ := str_gtr a1l b2l
      have s1 := str_any (H1.out.2.1.1.new HC3.out) a1c
      have s2 := str_any (H2.out.2.1.1.new HC3.out) b2c
      rw [← e1] at s1
      rw [← e2] at s2
      have HB4 := Lib.hid e5
      clear e1 e2 e5
      go_upto_if 38 with fail
      go_cut [1, 2] (fun va vb wx => ∃ a b : Slc, va = .slice a.1 a.2.2.length a.2.1 ∧ vb = .slice b.1 b.2.2.length b.2.1 ∧ Hid (wx = w3 ∧ KeyIn w a ∧ KeyIn w b ∧ Op.bytesLess b.2.2 a.2.2 = false ∧ Op.bytesLess c2l b.2.2 = false))
      case first =>
        cases X <;> cases Y
        all_goals
          go_wp2_with fail
          go_meet
        · exact ⟨(b2A, b2c, b2l), (a1A, a1c, a1l), rfl, rfl, rfl, H2.out.2.1, H1.out.2.1, less_no HB4.out, H2.out.2.2.2.2⟩
        all_goals exact ⟨(a1A, a1c, a1l), (b2A, b2c, b2l), rfl, rfl, rfl, H1.out.2.1, H2.out.2.1, HB4.out, H2.out.2.2.2.1⟩
      case rest =>
        clear s1 s2 e3 e4 HB4
        obtain ⟨⟨a3A, a3c, a3l⟩, ⟨b3A, b3c, b3l⟩, e1, e2, hcut⟩ := hcut
        subst e1; subst e2
        have hw := hcut.out.1.symm
        subst hw
        have HRa : Hid (Rd w3 a3A a3l) := hcut.out.2.1.1.new HC3.out
        have HRb : Hid (Rd w3 b3A b3l) := hcut.out.2.2.1.1.new HC3.out
        have HRc : Hid (Rd w3 c2A c2l) := H2.out.2.2.1.1.new HC3.out
        have HAB : Hid (Op.bytesLess b3l a3l = false) := hcut.out.2.2.2.1
        have HBC : Hid (Op.bytesLess c2l b3l = false) := hcut.out.2.2.2.2
        clear hcut H1 H2
        by_cases hb0 : b3l = []
        · rw [show b3l.length = 0 by rw [hb0]; rfl]
          go_wp2_with fail
          go_ret
          exact ⟨rfl, HC3.out⟩
        · have hb1 : ((b3l.length : Int) == 0) = false := by have := List.length_pos_iff.2 hb0; simp; omega
          have HB0 := Lib.hid hb0
          clear hb0
          by_cases hc0 : c2l = []
          · rw [show c2l.length = 0 by rw [hc0]; rfl]
            go_wp2_with fail
            go_ret
            exact ⟨rfl, HC3.out⟩
          · have hc1 : ((c2l.length : Int) == 0) = false := by have := List.length_pos_iff.2 hc0; simp; omega
            have HP : Hid (rngL a3l c2l L = rngL a3l b3l L ++ rngL b3l c2l L) := pieces_eq HAB.out HBC.out HB0.out hc0 HPw.out
            obtain ⟨i0, hi0, hz0, hz1, hz2⟩ := info_parts info_entryT
            have hlen1 := rngL_len a3l b3l L
            have hlen2 := rngL_len b3l c2l L
            have hlen3 := rngL_len a3l c2l L
            have hs0 := ((Sat.start w3).allocPt 34 #[]).row_pt (n := 0) (cap := 0) (size := 4) (Nat.le_refl _) (Nat.zero_le _) rfl
            have HS0 : Hid (Sat w3 (Row 34 4 (.slice (some ⟨w3.heap.size, 0, none⟩) 0 0) 0 [] * Emp) _) := hs0
            have HC4 := Lib.hid (HS0.out.chg)
            clear hs0 hc0
            go_wp2_with (first
              | (go_at_call 16; (with_reducible refine (rangeH (a3A, a3c, a3l) (b3A, b3c, b3l) T es' L HL.out HSq.out w3 _ _ HS0.out (HRa.out.new HC4.out) (HRb.out.new HC4.out) (HT3.out.new HC4.out)).mono ?_); rintro x w5 ⟨f1, F1, fc1, rfl, q1, q2, q3, q4, q5⟩; have hf1 : f1.length ≤ 60 := (by have h9 := congrArg List.length q1; simp at h9; omega); have HF1 := Lib.hid q1; have HS1 := Lib.hid q4; have HC5 := Lib.hid q4.chg; clear q1 q2 q3 q4 q5)
              | (at_builtin; refine wpList_appS rfl (.tmp 49) (.tmp 53) 22 rfl 34 i0 _ 4 64 Try.underlying22 hi0 hz0 hz1 hz2 rfl (by decide) (.slice (some ⟨w3.heap.size, 0, none⟩) 0 0) 0 [] rfl w3 _ (by exact HS1.out.up3) F1 f1.length fc1 (f1.flatMap enV) rfl HS1.out.row_rdK (ents_len _) (ent_ones _) (by unfold maxLen; omega) (by omega) ?_; intro A4 c4 w6 hs6; rw [Nat.zero_add]; rw [Nat.zero_add, List.nil_append] at hs6; have HS6 := Lib.hid hs6; have HC6 := Lib.hid hs6.chg; clear hs6)
              | (go_at_call 16; (with_reducible refine (rangeH (b3A, b3c, b3l) (c2A, c2c, c2l) T es' L HL.out HSq.out w3 _ _ HS6.out (HRb.out.new HC6.out) (HRc.out.new HC6.out) (HT3.out.new HC6.out)).mono ?_); rintro x w7 ⟨f2, F2, fc2, rfl, q1, q2, q3, q4, q5⟩; have hf2 : f2.length ≤ 60 := (by have h9 := congrArg List.length q1; simp at h9; omega); have HF2 := Lib.hid q1; have HS7 := Lib.hid q4; have HC7 := Lib.hid q4.chg; clear q1 q2 q3 q4 q5)
              | (at_builtin; refine wpList_appS rfl (.tmp 54) (.tmp 58) 22 rfl 34 i0 _ 4 64 Try.underlying22 hi0 hz0 hz1 hz2 rfl (by decide) (.slice A4 f1.length c4) f1.length (f1.flatMap enV) rfl w3 _ (by exact HS7.out.up3) F2 f2.length fc2 (f2.flatMap enV) rfl HS7.out.row_rdK (ents_len _) (ent_ones _) (by unfold maxLen; omega) (by omega) ?_; intro A8 c8 w8 hs8; have HS8 := Lib.hid hs8; have HC8 := Lib.hid hs8.chg; clear hs8)
              | (go_at_call 16; (with_reducible refine (rangeH (a3A, a3c, a3l) (c2A, c2c, c2l) T es' L HL.out HSq.out w3 _ _ HS8.out (HRa.out.new HC8.out) (HRc.out.new HC8.out) (HT3.out.new HC8.out)).mono ?_); rintro x w9 ⟨f3, F3, fc3, rfl, q1, q2, q3, q4, q5⟩; have HF3 := Lib.hid q1; have HQ2 := Lib.hid q2; have HQ3 := Lib.hid q3; have HS9 := Lib.hid q4; have HC9 := Lib.hid q4.chg; clear q1 q2 q3 q4 q5)
              | (go_at_call 19; refine (pieces_alike HF1.out HF2.out HF3.out HP.out HS9.out HQ2.out HQ3.out).mono ?_; rintro x w10 ⟨rfl, q1⟩; have HC10 := Lib.hid (HC3.out.tr (HC9.out.tr q1)); clear q1))
            go_ret
            exact ⟨rfl, HC10.out⟩
end Go.Proofs.Ytaoenbjfkahdjaa
