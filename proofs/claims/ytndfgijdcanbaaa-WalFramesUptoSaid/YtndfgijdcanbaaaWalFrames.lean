/- tidingslaw04.WalFrames: how a batch is cut into frames and what frames tell are the document's: the walk. -/
import Derived.Test.YtndfgijdcanbaaaWalRef2
import Derived.Test.YtndfgijdcanbaaaBookB
import Derived.Test.YtndfgijdcanbaaaLend
import Derived.Test.YtndfgijdcanbaaaOwnL2
import Derived.Deep.CutBlock
namespace Go.Proofs.Ytndfgijdcanbaaa
open Go.RowKit
set_option linter.unusedVariables false

theorem wholeFrom_few : ∀ (fs : List (List UInt8)) (cur : Option (List UInt8)), (wholeFrom cur fs).length ≤ fs.length
  | [], cur => by rw [wholeFrom_nil]; simp
  | [] :: fs, cur => by cases cur <;> simp [wholeFrom]
  | (c :: r) :: fs, cur => by
    rw [wholeFrom]
    by_cases h : 3 < c
    · rw [if_pos h]; simp
    · rw [if_neg h]
      generalize (if c &&& 1 ≠ 0 then some [] else cur) = q
      cases q with
      | none => have := wholeFrom_few fs none; simp only [List.length_cons]; omega
      | some b =>
        show (if c &&& 2 ≠ 0 then _ else _ : List (List UInt8)).length ≤ _
        by_cases h2 : c &&& 2 ≠ 0
        · rw [if_pos h2]; have := wholeFrom_few fs none; simp only [List.length_cons]; omega
        · rw [if_neg h2]; have := wholeFrom_few fs (some (b ++ r)); simp only [List.length_cons]; omega
def curLen : Option (List UInt8) → Nat
  | some b => b.length
  | none => 0
theorem wholeFrom_short : ∀ (fs : List (List UInt8)) (cur : Option (List UInt8)), ∀ x ∈ wholeFrom cur fs, x.length ≤ curLen cur + fs.flatten.length
  | [], cur => by rw [wholeFrom_nil]; simp
  | [] :: fs, cur => by cases cur <;> simp [wholeFrom]
  | (c :: r) :: fs, cur => by
    intro x hx
    rw [wholeFrom] at hx
    rw [List.flatten_cons, List.length_append, List.length_cons]
    by_cases h : 3 < c
    · rw [if_pos h] at hx; simp at hx
    · rw [if_neg h] at hx
      have hq : curLen (if c &&& 1 ≠ 0 then some [] else cur) ≤ curLen cur := by
        by_cases h1 : c &&& 1 ≠ 0
        · rw [if_pos h1]; exact Nat.zero_le _
        · rw [if_neg h1]; exact Nat.le_refl _
      generalize (if c &&& 1 ≠ 0 then some [] else cur) = q at hx hq
      cases q with
      | none => have := wholeFrom_short fs none x hx; have e : curLen none = 0 := rfl; omega
      | some b =>
        have e1 : curLen (some b) = b.length := rfl
        have hx : x ∈ (if c &&& 2 ≠ 0 then (b ++ r) :: wholeFrom none fs else wholeFrom (some (b ++ r)) fs) := hx
        by_cases h2 : c &&& 2 ≠ 0
        · rw [if_pos h2] at hx
          rcases List.mem_cons.1 hx with rfl | hx
          · rw [List.length_append]; omega
          · have := wholeFrom_short fs none x hx; have e : curLen none = 0 := rfl; omega
        · rw [if_neg h2] at hx
          have := wholeFrom_short fs _ x hx
          have e : curLen (some (b ++ r)) = b.length + r.length := List.length_append
          omega
theorem lendW {w W : World} {S : SP} (A : Option Addr) (c : Nat) (l : List UInt8) (h : Sat w S W) (hr : Rd W A l) (hl : l.length ≤ 140737488355328) : Calls Try.prog 8 #[.slice A l.length c] W fun e w' => ∃ g, e = .returned (.slice (some ⟨g, 0, none⟩) l.length (l.length + 2)) ∧ Sat w (Pt g 5 (Marked l) * S) w' := by
  refine (lend_any A c l W hr hl).mono ?_
  rintro e w' ⟨g, rfl, h1, h2, h3⟩
  exact ⟨g, rfl, h.take h3 h1 h2⟩
theorem backW {w W : World} {S : SP} (g : Nat) (A : Option Addr) (c : Nat) (l : List UInt8) (h : Sat w (Pt g 5 (Marked l) * S) W) (hr : Rd W A l) (hl : l.length ≤ 140737488355328) : Calls Try.prog 18 #[.slice (some ⟨g, 0, none⟩) l.length (l.length + 2), .slice A l.length c] W fun e w' => e = .returned (.bool true) ∧ Sat w S w' := by
  refine (back_yes g c A l W h.at hr hl).mono ?_
  rintro e w' ⟨rfl, k⟩
  exact ⟨rfl, h.lose k (Nat.lt_of_lt_of_le h.lt k.size)⟩
theorem rdl_of {w0 w : World} {F : SP} {A : Option Addr} {n c : Nat} {rs : Rows_} (h : Sat w0 (Row 24 1 (.slice A n c) rs.length (rs.map slOf) * (OwnR rs * F)) w) : RdL w A rs := by
  obtain ⟨A', c', e, h1, _⟩ := h.row_rd
  injection e with e
  subst e
  exact ⟨h1, fun x hx => OwnR_rd h.right hx⟩
/-- Split, in memory of one's own. -/
theorem splitW {w W : World} {S : SP} (A : Option Addr) (c : Nat) (b : List UInt8) (h : Sat w S W) (hr : Rd W A b) (hc : b.length ≤ c) (hm : c ≤ 9223372036854775807) (hb : b.length ≤ 262144) :
    Calls Try.prog 9 #[.slice A b.length c] W (ToldLL w S (split b)) := by
  refine (split_any A c b W hr hc hm hb).mono ?_
  rintro e w' ⟨v, rs, rfl, ht, ho, k⟩
  have h1 := h.gotLL k ho
  obtain ⟨A', c', rfl, h2, h3⟩ := h1.row_sl
  exact ⟨A', c', rs, rfl, h2, h3, ht, h1⟩
theorem wholeW {w W : World} {S : SP} (A : Option Addr) (c : Nat) (ks : Rows_) (h : Sat w S W) (hr : RdL W A ks) (hcap : ∀ k ∈ ks, k.2.2.length ≤ k.2.1 ∧ k.2.1 ≤ maxLen) (htot : (txt ks).flatten.length ≤ 140737488355328) (hks : ks.length ≤ 1000000) :
    Calls Try.prog 10 #[.slice A ks.length c] W (ToldLL w S (whole (txt ks))) := by
  refine (whole_any A c ks W hr hcap htot hks).mono ?_
  rintro e w' ⟨v, rs, rfl, ht, ho, k⟩
  have h1 := h.gotLL k ho
  obtain ⟨A', c', rfl, h2, h3⟩ := h1.row_sl
  exact ⟨A', c', rs, rfl, h2, h3, ht, h1⟩
theorem twinsW (A : Option Addr) (c : Nat) (ks : Rows_) (w : World) (h : RdL w A ks) (hl : ∀ k ∈ ks, k.2.2.length ≤ 140737488355328) (hks : ks.length ≤ 1000000) :
    Calls Try.prog 11 #[.slice A ks.length c] w fun e w' => ∃ A' c' rs, e = .returned (.slice A' rs.length c') ∧ txt rs = txt ks ∧ RdL w' A' rs ∧ (∀ k ∈ rs, k.2.2.length ≤ k.2.1 ∧ k.2.1 ≤ maxLen) ∧ Chg No w w' := by
  refine (twins_any A c ks w h hl hks).mono ?_
  rintro e w' ⟨v, rs, rfl, ht, ho, k⟩
  obtain ⟨A', c', rfl, h1, _⟩ := ho.rdl
  exact ⟨A', c', rs, rfl, ht, h1, ho.each.caps, k⟩
/-- The document's answers, read alone. -/
def ToldN (W : World) (l : List (List UInt8)) (e : Ending) (w' : World) : Prop := ∃ A c rs, e = .returned (.slice A rs.length c) ∧ txt rs = l ∧ RdL w' A rs ∧ Chg No W w'
theorem told_n {W : World} {l : List (List UInt8)} {e : Ending} {w' : World} (h : ToldLL W Emp l e w') : ToldN W l e w' := by
  obtain ⟨A, c, rs, rfl, _, _, h1, h2⟩ := h
  exact ⟨A, c, rs, rfl, h1, rdl_of h2, h2.chg⟩
theorem rsplitN (A : Option Addr) (c : Nat) (b : List UInt8) (W : World) (hr : Rd W A b) (hc : b.length ≤ c) (hm : c ≤ 9223372036854775807) (hb : b.length ≤ 262144) :
    Calls Try.prog 13 #[.slice A b.length c] W (ToldN W (split b)) := (rsplit_any A c b W W Emp (Sat.start W) hr hc hm hb).mono fun _ _ h => told_n h
theorem rwholeN (A : Option Addr) (c : Nat) (ks : Rows_) (W : World) (hr : RdL W A ks) (hcap : ∀ k ∈ ks, k.2.2.length ≤ k.2.1 ∧ k.2.1 ≤ maxLen) (htot : (txt ks).flatten.length ≤ 140737488355328) (hks : ks.length ≤ 1000000) :
    Calls Try.prog 14 #[.slice A ks.length c] W (ToldN W (whole (txt ks))) := (rwhole_any A c ks W W Emp (Sat.start W) hr hcap htot hks).mono fun _ _ h => told_n h
theorem listsW {w W : World} {S : SP} (A B : Option Addr) (c d : Nat) (ks ls : Rows_) (hs : Sat w S W) (h : RdL W A ks) (h' : RdL W B ls) (he : txt ks = txt ls) (hks : ks.length ≤ 1000000) :
    Calls Try.prog 12 #[.slice A ks.length c, .slice B ls.length d] W fun e w' => e = .returned (.bool true) ∧ Sat w S w' := by
  refine (lists_same A B c d ks ls W h h' he hks).mono ?_
  rintro e w' ⟨rfl, k⟩
  exact ⟨rfl, hs.new k⟩
theorem flat_takes (l : List (List UInt8)) (k : Nat) : (l.take k).flatten.length ≤ l.flatten.length := by
  conv => rhs; rw [← List.take_append_drop k l]
  rw [List.flatten_append, List.length_append]
  omega
theorem mem_flat_len : ∀ {l : List (List UInt8)} {x : List UInt8}, x ∈ l → x.length ≤ l.flatten.length
  | y :: l, x, h => by
    rw [List.flatten_cons, List.length_append]
    rcases List.mem_cons.1 h with rfl | h
    · omega
    · have := mem_flat_len h; omega
theorem bookW_new {k : Nat} {w0 w : World} {F : SP} (h : Sat w0 (Pt k 36 #[.slice none 0 0, .slice none 0 0, .slice none 0 0, .slice none 0 0, .slice none 0 0, .slice none 0 0] * F) w) : Sat w0 (BookP k [] * F) w := by
  have h1 := ((h.row_nil 24 1).row_nil 24 1)
  refine Sat.bookI (vb := .slice none 0 0) (vs := .slice none 0 0) (ss := []) rfl (h1.of ?_)
  rw [book_d]
  show Row _ _ _ _ _ * (Row _ _ _ _ _ * (Pt _ _ _ * F)) = Pt _ _ _ * (Row _ _ _ _ _ * (Row _ _ _ _ _ * (Emp * (Emp * F))))
  rw [emp_star, emp_star]
  ac_rfl
theorem row_headW {w0 w : World} {F : SP} {A : Option Addr} {n c : Nat} {rs : Rows_} (h : Sat w0 (Row 24 1 (.slice A n c) rs.length (rs.map slOf) * F) w) {q : Nat} (hq : q < rs.length) : ∃ b o, A = some ⟨b, o, none⟩ := by
  obtain ⟨A', c', e, h1, _⟩ := h.row_rd
  injection e with e
  subst e
  obtain ⟨b', o', e, _⟩ := RdV.get h1 (j := q) (by rw [List.length_map]; exact hq)
  exact ⟨b', o', e⟩
theorem row_cellW {w0 w : World} {F : SP} {b o n c : Nat} {rs : Rows_} (h : Sat w0 (Row 24 1 (.slice (some ⟨b, o, none⟩) n c) rs.length (rs.map slOf) * F) w) (q : Nat) (hq : q < rs.length) :
    w.cell? ⟨b, o + q, none⟩ = some (.slice rs[q].1 rs[q].2.2.length rs[q].2.1) := by
  obtain ⟨A', c', e, h1, _⟩ := h.row_rd
  injection e with e
  subst e
  obtain ⟨b', o', e, hc⟩ := RdV.get h1 (j := q) (by rw [List.length_map]; exact hq)
  injection e with e
  injection e with e1 e2
  subst e1; subst e2
  rw [hc, List.getElem_map]
  rfl
set_option maxRecDepth 10000 in
set_option maxHeartbeats 4000000 in
theorem frames_walk (n v : Int) (FA : Option Addr) (fc : Nat) (frames : Rows_) (need : Int) (w : World) (hn : -9223372036854775808 ≤ n ∧ n ≤ 9223372036854775807) (hv : -9223372036854775808 ≤ v ∧ v ≤ 9223372036854775807)
    (hf : frames.length ≤ fc ∧ fc ≤ maxLen ∧ RdL w FA frames ∧ (∀ k ∈ frames, k.2.2.length ≤ k.2.1 ∧ k.2.1 ≤ maxLen) ∧ (txt frames).flatten.length ≤ 1048576) (hd : -9223372036854775808 ≤ need ∧ need ≤ 9223372036854775807) :
    Calls Try.prog 3 #[.int .i64 n, .int .i64 v, .slice FA frames.length fc, .int .i64 need] w (Asked true w) := by
  obtain ⟨hf1, hf2, hf3, hf4, hf5⟩ := hf
  have hnl := wi_le n 3000 (by omega)
  have HWn := Lib.hid (fun W => within0 n 3000 W (by omega) (by omega))
  generalize wi n 3000 = N at *
  have HLa := Lib.hid (fun W => long_any N v W (by omega))
  have HLena := Lib.hid (length_long N v)
  generalize long N v = b at *
  obtain rfl : N = b.length := HLena.out.symm
  clear HLena
  have HRF := Lib.hid hf3
  have HCF := Lib.hid hf4
  have HTF := Lib.hid hf5
  have HHd := Lib.hid hd
  unfold maxLen at hf2
  clear hf3 hf4 hf5 hn hv
  go_enter Try.func3, Try.ntmps3
  go_wp2_with fail
  refine (HWn.out w).mono ?_
  rintro e w1 ⟨rfl, rfl⟩
  go_wp2_with fail
  refine (HLa.out w).mono ?_
  rintro e w1 ⟨g0, rfl, hg1, hg2, hg3⟩
  have hs1 := Sat.give (xs := b.map bv) (o := 0) ((Sat.start w).take hg3 hg1 hg2) (fun j hj => by simp at hj; simp [hj])
  have HS1 : Hid (Sat w (Rb (some ⟨g0, 0, none⟩) b * Emp) w1) := hs1
  have HB1 := Lib.hid (Sat.rd (h := HS1.out))
  clear hg1 hg2 hg3 hs1
  go_upto_if 25 with (go_at_call 8; (with_reducible refine (lendW (some ⟨g0, 0, none⟩) b.length b HS1.out HB1.out (by omega)).mono ?_); rintro e w2 ⟨g, rfl, hs2⟩; have HS2 := Lib.hid hs2; clear hs2)
  go_cut [2] from 16 (fun fv wx => ∃ c2, fv = .slice FA (frames.take 40).length c2 ∧ (frames.take 40).length ≤ c2 ∧ wx = w2)
  case first =>
    by_cases h40 : 40 < frames.length
    · have h40' : (40 : Int) < (frames.length : Nat) := by omega
      have hl40 : (frames.take 40).length = 40 := by rw [List.length_take]; omega
      have HL40 := Lib.hid hl40
      clear hl40
      go_wp2_with fail
      go_meet
      exact ⟨fc, by rw [HL40.out], by rw [HL40.out]; omega, rfl⟩
    · have h40' : ¬ (40 : Int) < (frames.length : Nat) := by omega
      have hl40 : frames.take 40 = frames := List.take_of_length_le (by omega)
      have HL40 := Lib.hid hl40
      clear hl40
      go_wp2_with fail
      go_meet
      exact ⟨fc, by rw [HL40.out], by rw [HL40.out]; exact hf1, rfl⟩
  case rest =>
    obtain ⟨c2, rfl, hc2, rfl⟩ := hcut
    obtain ⟨fr, hfr⟩ : ∃ fr, frames.take 40 = fr := ⟨_, rfl⟩
    have hfl : fr.length ≤ 40 := by rw [← hfr, List.length_take]; omega
    rw [hfr] at hc2
    rw [hfr]
    have HR0 : Hid (RdL w FA fr) := by rw [← hfr]; exact HRF.out.take 40
    have HC0 : Hid (∀ k ∈ fr, k.2.2.length ≤ k.2.1 ∧ k.2.1 ≤ maxLen) := fun k hk => HCF.out k (List.mem_of_mem_take (hfr ▸ hk))
    have HT0 : Hid ((txt fr).flatten.length ≤ 1048576) := by
      have h1 := flat_le frames 40
      rw [hfr] at h1
      have := HTF.out
      unfold Hid
      omega
    have HL0 : Hid (∀ k ∈ fr, k.2.2.length ≤ 140737488355328) := fun k hk => by
      have h1 : k.2.2.length ≤ (txt fr).flatten.length := by
        exact mem_flat_len (List.mem_map.2 ⟨k, hk, rfl⟩)
      have := HT0.out
      omega
    have hsp : (split b).length ≤ 7 := by rw [length_split]; unfold needN; split <;> omega
    have HSP := Lib.hid (length_split b)
    have HSF : Hid (∀ x ∈ split b, x.length ≤ 140737488355000) := fun x hx => by
      have h1 := split_flat b (by omega)
      have h2 : x.length ≤ (split b).flatten.length := by
        exact mem_flat_len hx
      omega
    clear hfr HS1 HRF HCF HTF
    go_upto_region 8 with (first
      | (go_at_call 9; (with_reducible refine (splitW (some ⟨g, 0, none⟩) (b.length + 2) b HS2.out (marked_rd HS2.out.at) (by omega) (by omega) (by omega)).mono ?_); rintro e w3 ⟨LA, lc, rs, rfl, hl1, hl2, hl3, hs3⟩; have HL1 := Lib.hid hl1; have HL2 := Lib.hid hl2; have HL3 := Lib.hid hl3; have HS3 := Lib.hid hs3; clear hl1 hl2 hl3 hs3)
      | (go_at_call 11; (with_reducible refine (twinsW FA c2 fr w3 (HR0.out.new HS3.out.chg) HL0.out (by omega)).mono ?_); rintro e w4 ⟨TA, tc, ts, rfl, ht1, ht2, ht3, k4⟩; have HT1 := Lib.hid ht1; have HT2 := Lib.hid ht2; have HT3 := Lib.hid ht3; have HS4 := Lib.hid (HS3.out.new k4); clear ht1 ht2 ht3 k4)
      | (go_at_call 10; (with_reducible refine (wholeW TA tc ts HS4.out HT2.out HT3.out (by rw [HT1.out]; have := HT0.out; omega) (by have h1 := congrArg List.length HT1.out; unfold txt at h1; rw [List.length_map, List.length_map] at h1; omega)).mono ?_); rintro e w5 ⟨WA, wc, ws, rfl, hw1, hw2, hw3, hs5⟩; rw [HT1.out] at hw3; have HW1 := Lib.hid hw1; have HW2 := Lib.hid hw2; have HW3 := Lib.hid hw3; have HS5 := Lib.hid hs5; clear hw1 hw2 hw3 hs5))
    have hrs : rs.length ≤ 7 := by have h1 := congrArg List.length HL3.out; unfold txt at h1; rw [List.length_map] at h1; omega
    have hws : ws.length ≤ 40 := by
      have h1 := congrArg List.length HW3.out
      unfold txt at h1
      rw [List.length_map] at h1
      have h2 := wholeFrom_few (txt fr) none
      unfold whole at h1
      unfold txt at h2
      rw [List.length_map] at h2
      omega
    have HNd : Hid (needI (b.length : Int) = (rs.length : Int)) := by
      have h1 := congrArg List.length HL3.out
      rw [HSP.out] at h1
      unfold txt at h1
      rw [List.length_map] at h1
      unfold needI Hid
      rw [if_pos (by omega), h1]
      rfl
    have HXs : Hid (∀ x ∈ rs, x.2.2.length ≤ 140737488355000) := fun x hx => HSF.out _ (by rw [← HL3.out]; exact List.mem_map.2 ⟨x, hx, rfl⟩)
    have HXw : Hid (∀ x ∈ ws, x.2.2.length ≤ 140737488355000) := fun x hx => by
      have h1 : x.2.2 ∈ wholeFrom none (txt fr) := by
        show x.2.2 ∈ whole (txt fr)
        rw [← HW3.out]
        exact List.mem_map.2 ⟨x, hx, rfl⟩
      have h2 := wholeFrom_short (txt fr) none _ h1
      have h3 := HT0.out
      have e : curLen none = 0 := rfl
      omega
    clear HS2 HS3 HS4 HT2 HT3
    go_upto_region 10 with (first
      | (go_at_call 13; (with_reducible refine (rsplitN (some ⟨g0, 0, none⟩) b.length b w5 (Sat.rd (h := HS5.out.up6)) (by omega) (by omega) (by omega)).mono ?_); rintro e w6 ⟨RA, rc, xs, rfl, hx1, hx2, k6⟩; have HX1 := Lib.hid hx1; have HX2 := Lib.hid hx2; have HS6 := Lib.hid (HS5.out.new k6); clear hx1 hx2 k6)
      | (go_at_call 12; (with_reducible refine (listsW LA RA lc rc rs xs HS6.out (rdl_of HS6.out.right.right) HX2.out (HL3.out.trans HX1.out.symm) (by omega)).mono ?_); rintro e w7 ⟨rfl, hs7⟩; have HS7 := Lib.hid hs7; clear hs7)
      | (go_at_call 14; (with_reducible refine (rwholeN FA c2 fr w7 (HR0.out.new HS7.out.chg) HC0.out (by have := HT0.out; omega) (by omega)).mono ?_); rintro e w8 ⟨QA, qc, ys, rfl, hy1, hy2, k8⟩; have HY1 := Lib.hid hy1; have HY2 := Lib.hid hy2; have HS8 := Lib.hid (HS7.out.new k8); clear hy1 hy2 k8)
      | (go_at_call 12; (with_reducible refine (listsW WA QA wc qc ws ys HS8.out (rdl_of HS8.out) HY2.out (HW3.out.trans HY1.out.symm) (by omega)).mono ?_); rintro e w9 ⟨rfl, hs9⟩; have HS9 := Lib.hid hs9; clear hs9)
      | (go_at_call 15; (with_reducible refine (need_any need _ HHd.out).mono ?_); rintro e w' ⟨rfl, hw'⟩; rw [← hw']; clear hw' w')
      | (go_at_call 16; (with_reducible refine (rneed_any need _ HHd.out).mono ?_); rintro e w' ⟨rfl, hw'⟩; rw [hw']; clear hw' w')
      | (go_at_call 15; (with_reducible refine (need_any (b.length : Int) _ (by omega)).mono ?_); rintro e w' ⟨rfl, hw'⟩; rw [← hw']; clear hw' w'; rw [HNd.out]))
    go_upto_region 11 with fail
    have hbk := bookW_new (HS9.out.allocPt 36 #[.slice none 0 0, .slice none 0 0, .slice none 0 0, .slice none 0 0, .slice none 0 0, .slice none 0 0])
    revert hbk
    generalize w9.alloc _ = w10
    generalize w9.heap.size = bk
    intro hbk
    have HB0 : Hid (Sat w (OwnR (rs.drop 0) * (BookP bk (rs.take 0) * (Row 24 1 (.slice LA rs.length lc) rs.length (rs.map slOf) * (Row 24 1 (.slice WA ws.length wc) ws.length (ws.map slOf) * (OwnR ws * (Pt g 5 (Marked b) * (Rb (some ⟨g0, 0, none⟩) b * Emp))))))) w10) := hbk.of (by
      rw [List.drop_zero, List.take_zero]
      ac_rfl)
    clear hbk HS5 HS6 HS7 HS8 HS9 HX2 HY2
    go_wp2_with fail
    go_loopw [14] (fun i wq => ∃ q : Nat, q ≤ rs.length ∧ i = .int .i64 q ∧ Hid (Sat w (OwnR (rs.drop q) * (BookP bk (rs.take q) * (Row 24 1 (.slice LA rs.length lc) rs.length (rs.map slOf) * (Row 24 1 (.slice WA ws.length wc) ws.length (ws.map slOf) * (OwnR ws * (Pt g 5 (Marked b) * (Rb (some ⟨g0, 0, none⟩) b * Emp))))))) wq)) (fun i _ => rs.length - (intOf i).toNat)
    case atStart => exact ⟨0, by omega, rfl, HB0.out⟩
    case round =>
      obtain ⟨q, hqr, rfl, HD⟩ := hrel
      by_cases hlt : q < rs.length
      · have hrow := HD.out.right.right
        obtain ⟨lb, lo, rfl⟩ := row_headW hrow hlt
        have z0 := row_cellW hrow q hlt
        have hsh := HXs.out _ (List.getElem_mem hlt)
        have H1 : Hid (Sat w (Row 5 1 (slOf rs[q]) rs[q].2.2.length (rs[q].2.2.map bv) * (BookP bk (rs.take q) * (OwnR (rs.drop (q + 1)) * (Row 24 1 (.slice (some ⟨lb, lo, none⟩) rs.length lc) rs.length (rs.map slOf) * (Row 24 1 (.slice WA ws.length wc) ws.length (ws.map slOf) * (OwnR ws * (Pt g 5 (Marked b) * (Rb (some ⟨g0, 0, none⟩) b * Emp)))))))) wr) := HD.out.of (by
          rw [List.drop_eq_getElem_cons hlt]
          show (Row _ _ _ _ _ * OwnR _) * (BookP _ _ * _) = Row _ _ _ _ _ * (BookP _ _ * (OwnR _ * _))
          ac_rfl)
        have hel : (rs.take q).length < 400 := by rw [List.length_take]; omega
        clear hrow
        go_wp2_with (go_at_call 17; (with_reducible refine (bookS_bytes bk (rs.take q) rs[q] w _ _ H1.out hel (by omega)).mono ?_); rintro x w41 ⟨rfl, hs41⟩; have HS41 := Lib.hid hs41; clear hs41 H1)
        go_roundw
        · exact ⟨q + 1, by omega, by push_cast; rfl, by rw [List.take_succ_eq_append_getElem hlt]; exact HS41.out.up2⟩
        · simp [intOf]; omega
      · have hqe : q = rs.length := by omega
        subst hqe
        have HC1 : Hid (Sat w (OwnR (ws.drop 0) * (BookP bk (rs ++ ws.take 0) * (Row 24 1 (.slice WA ws.length wc) ws.length (ws.map slOf) * (Pt g 5 (Marked b) * (Rb (some ⟨g0, 0, none⟩) b * Emp))))) wr) := by
          have h1 := HD.out.of (show _ = BookP bk rs * (Row 24 1 (.slice LA rs.length lc) rs.length (rs.map slOf) * (Row 24 1 (.slice WA ws.length wc) ws.length (ws.map slOf) * (OwnR ws * (Pt g 5 (Marked b) * (Rb (some ⟨g0, 0, none⟩) b * Emp))))) by
            rw [List.drop_length, List.take_length]
            show Emp * _ = _
            rw [emp_star])
          rw [List.drop_zero, List.take_zero, List.append_nil]
          exact h1.up2.right.of (by ac_rfl)
        clear HD
        go_wp2_with fail
        go_loopw [15] (fun i wq => ∃ q : Nat, q ≤ ws.length ∧ i = .int .i64 q ∧ Hid (Sat w (OwnR (ws.drop q) * (BookP bk (rs ++ ws.take q) * (Row 24 1 (.slice WA ws.length wc) ws.length (ws.map slOf) * (Pt g 5 (Marked b) * (Rb (some ⟨g0, 0, none⟩) b * Emp))))) wq)) (fun i _ => ws.length - (intOf i).toNat)
        case atStart => exact ⟨0, by omega, rfl, HC1.out⟩
        case round =>
          obtain ⟨q, hqr, rfl, HD⟩ := hrel
          by_cases hlt : q < ws.length
          · have hrow := HD.out.right.right
            obtain ⟨lb, lo, rfl⟩ := row_headW hrow hlt
            have z0 := row_cellW hrow q hlt
            have hsh := HXw.out _ (List.getElem_mem hlt)
            have H1 : Hid (Sat w (Row 5 1 (slOf ws[q]) ws[q].2.2.length (ws[q].2.2.map bv) * (BookP bk (rs ++ ws.take q) * (OwnR (ws.drop (q + 1)) * (Row 24 1 (.slice (some ⟨lb, lo, none⟩) ws.length wc) ws.length (ws.map slOf) * (Pt g 5 (Marked b) * (Rb (some ⟨g0, 0, none⟩) b * Emp)))))) wr) := HD.out.of (by
              rw [List.drop_eq_getElem_cons hlt]
              show (Row _ _ _ _ _ * OwnR _) * (BookP _ _ * _) = Row _ _ _ _ _ * (BookP _ _ * (OwnR _ * _))
              ac_rfl)
            have hel : (rs ++ ws.take q).length < 400 := by rw [List.length_append, List.length_take]; omega
            clear hrow
            go_wp2_with (go_at_call 17; (with_reducible refine (bookS_bytes bk (rs ++ ws.take q) ws[q] w _ _ H1.out hel (by omega)).mono ?_); rintro x w41 ⟨rfl, hs41⟩; have HS41 := Lib.hid hs41; clear hs41 H1)
            go_roundw
            · exact ⟨q + 1, by omega, by push_cast; rfl, by rw [List.take_succ_eq_append_getElem hlt, ← List.append_assoc]; exact HS41.out.up2⟩
            · simp [intOf]; omega
          · have hqe : q = ws.length := by omega
            subst hqe
            have HE1 : Hid (Sat w (Pt g 5 (Marked b) * (Rb (some ⟨g0, 0, none⟩) b * (BookP bk (rs ++ ws) * Emp))) wr) := by
              have h1 := HD.out.of (show _ = BookP bk (rs ++ ws) * (Row 24 1 (.slice WA ws.length wc) ws.length (ws.map slOf) * (Pt g 5 (Marked b) * (Rb (some ⟨g0, 0, none⟩) b * Emp))) by
                rw [List.drop_length, List.take_length]
                show Emp * _ = _
                rw [emp_star])
              exact h1.up2.right.of (by ac_rfl)
            have HEl : Hid ((rs ++ ws).length ≤ 400) := by unfold Hid; rw [List.length_append]; omega
            have HEs : Hid (∀ x ∈ rs ++ ws, x.2.2.length ≤ 140737488355000) := fun x hx => (List.mem_append.1 hx).elim (HXs.out x) (HXw.out x)
            clear HD
            go_wp2_with (first
              | (go_at_call 18; (with_reducible refine (backW g (some ⟨g0, 0, none⟩) b.length b HE1.out (Sat.rd (h := HE1.out.up2)) (by omega)).mono ?_); rintro x w51 ⟨rfl, hs51⟩; have HE2 := Lib.hid hs51; clear hs51)
              | (go_at_call 19; (with_reducible refine (bookS_close bk (rs ++ ws) w _ _ HE2.out.up2 HEl.out HEs.out).mono ?_); rintro x w52 ⟨rfl, hs52⟩; have HE3 := Lib.hid hs52; clear hs52)
              | (go_at_call 20; (with_reducible refine (wakes_any _).mono ?_); rintro x w53 ⟨rfl, k53⟩; have HE4 := Lib.hid (HE3.out.new k53); clear k53))
            go_ret
            exact ⟨rfl, HE4.out.chg⟩
end Go.Proofs.Ytndfgijdcanbaaa
