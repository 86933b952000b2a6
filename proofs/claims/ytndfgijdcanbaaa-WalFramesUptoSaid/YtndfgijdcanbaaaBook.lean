/- The statements' Book: answers that are kept, looked at again, written full and grown. -/
import Derived.Test.YtndfgijdcanbaaaReg
import Derived.Deep.CutBlock
namespace Go.Proofs.Ytndfgijdcanbaaa
open Go.RowKit
set_option linter.unusedVariables false

def nilS : Value := .slice none 0 0
/-- The book's cells: the answers' list and their twins' list; nothing of the other kinds. -/
structure BookHead (w : World) (k : Nat) (vb vs : Value) : Prop where
  at_ : At w k 36 #[vb, vs, .slice none 0 0, .slice none 0 0, .slice none 0 0, .slice none 0 0]
/-- The book k keeps the answers es (their rows from b1 on); all that is the book's own lies from b2 on. -/
structure Bk (b1 b2 : Nat) (w : World) (k : Nat) (es : Rows_) : Prop where
  le : b1 ≤ b2 ∧ b2 ≤ k
  ex : ∃ vb vs ss, BookHead w k vb vs ∧ w.ownsRow b2 24 1 vb es.length (es.map slOf) ∧ OwnLL b2 w vs ss ∧ txt ss = txt es ∧ (∀ g, vb.ownBlock = some g → vs.ownBlock ≠ some g)
  own : OwnL b1 w es

section
variable {b1 b2 : Nat} {w w' : World} {k : Nat} {es : Rows_}
theorem Bk.new (h : Bk b1 b2 w k es) (c : Chg No w w') : Bk b1 b2 w' k es := by
  obtain ⟨vb, vs, ss, h1, h2, h3, h4, h5⟩ := h.ex
  exact ⟨h.le, ⟨vb, vs, ss, ⟨h1.at_.chg c id⟩, own_chg h2 c (fun _ _ => id), h3.new c, h4, h5⟩, h.own.new c⟩
theorem Bk.fresh (hb : b1 ≤ w.heap.size) : Bk b1 w.heap.size (w.alloc (.cells #[.slice none 0 0, .slice none 0 0, .slice none 0 0, .slice none 0 0, .slice none 0 0, .slice none 0 0] 36)) w.heap.size [] :=
  ⟨⟨hb, Nat.le_refl _⟩, ⟨_, _, [], ⟨At.new _ _ _⟩, World.ownsRow_nil _ _ _ _, OwnLL.nil _ _, rfl, by simp [Value.ownBlock]⟩, OwnL.nil _ _⟩
end

/-- Bytes: one answer more. -/
def Booked (b1 b2 k : Nat) (es : Rows_) (w : World) (e : Ending) (w' : World) : Prop := e = .returned (.tuple #[]) ∧ Bk b1 b2 w' k es ∧ Chg (From b2) w w'
set_option maxHeartbeats 2000000 in
theorem book_bytes (b1 b2 k : Nat) (es : Rows_) (x : Option Addr × Nat × List UInt8) (w : World) (h : Bk b1 b2 w k es) (hx : w.ownsRow b1 5 1 (slOf x) x.2.2.length (x.2.2.map bv))
    (hd : ∀ y ∈ es, ∀ g, (slOf y).ownBlock = some g → (slOf x).ownBlock ≠ some g) (hl : x.2.2.length ≤ 140737488355328) (hn : es.length < 400) :
    Calls Try.prog 17 #[.pointer (some ⟨k, 0, none⟩), .slice x.1 x.2.2.length x.2.1] w (Booked b1 b2 k (es ++ [x]) w) := by
  obtain ⟨i0, hi, hz0, hz1, hz2⟩ := info_parts info_sl
  obtain ⟨vb, vs, ss, hh, hrow, hss, htx, hne⟩ := h.ex
  obtain ⟨Ab, cb, rfl, _, _, _, _⟩ := own_rd hrow
  obtain ⟨As, cs, rfl, _, _, _, _⟩ := own_rd hss.row
  have hlen : ss.length = es.length := by have := congrArg List.length htx; simpa [txt] using this
  have hk0 : w.cell? ⟨k, 0, none⟩ = some (.slice Ab es.length cb) := by rw [hh.at_.cell]; rfl
  have hk1 : w.cell? ⟨k, 1, none⟩ = some (.slice As ss.length cs) := by rw [hh.at_.cell]; rfl
  have hfz := hh.at_.frozen 0
  have hfz1 := hh.at_.frozen 1
  have hn' : (es.length : Int) < 400 := by omega
  have HB := Lib.hid h
  have HX := Lib.hid hx
  have HD := Lib.hid hd
  have HH := Lib.hid hh
  have HRow := Lib.hid hrow
  have HSs := Lib.hid hss
  have HTx := Lib.hid htx
  have HNe := Lib.hid hne
  have HLen := Lib.hid hlen
  have L0 : Hid (b2 ≤ w.heap.size ∧ es.length + 1 ≤ 1000000) := ⟨by have := HB.out.le.2; have := HH.out.at_.lt; omega, by omega⟩
  clear h hx hd hh hrow hss htx hne hlen
  have K0 := Lib.hid ((Chg.refl No w).alloc (.cells #[.slice x.1 x.2.2.length x.2.1] 24))
  have ORow := Lib.hid (own_chg HRow.out K0.out (fun _ _ => id))
  go_enter Try.func17, Try.ntmps17
  go_wp2_with (at_builtin; refine wpList_app rfl (.tmp 14) (.tmp 16) 22 rfl b2 24 i0 _ 1 24 Try.underlying22 hi hz0 hz1 hz2 rfl (by decide) (.slice Ab es.length cb) es.length (es.map slOf) rfl ORow.out (some ⟨w.heap.size, 0, none⟩) 1 1 [slOf x] rfl (RdV.lit w #[.slice x.1 x.2.2.length x.2.1] 24 (0, 0)) rfl (slOf_one [x]) (by have := L0.out.2; unfold maxLen; omega) (by have := L0.out.2; omega) (by have := L0.out.1; simp; omega) ?_; intro v3 w3 hap; have HA := Lib.hid hap; clear hap; obtain ⟨A3, c3, hv3, _⟩ := own_rd HA.out.own; subst hv3;
                    have a3 := (HH.out.at_.alloc (.cells #[.slice x.1 x.2.2.length x.2.1] 24)).chg HA.out.chg (fun e => own_ne_at ORow.out (HH.out.at_.alloc _) (by decide) e); have A3k := Lib.hid a3; have hq0 := a3.cell 0; have hf0 := a3.frozen 0; clear a3)
  have k1 := chg_set w3 k 0 (.slice A3 (es.length + 1) c3)
  have ha1 := A3k.out.set 0 (.slice A3 (es.length + 1) c3)
  obtain ⟨wb, hwb⟩ : ∃ wb : World, wb = w3.setCell ⟨k, 0, none⟩ (.slice A3 (es.length + 1) c3) := ⟨_, rfl⟩
  rw [← hwb] at k1 ha1 ⊢
  clear hwb
  have hA1 : At wb k 36 #[.slice A3 (es.length + 1) c3, .slice As ss.length cs, .slice none 0 0, .slice none 0 0, .slice none 0 0, .slice none 0 0] := ha1
  clear ha1
  have O1 := Lib.hid (own_step HA.out.own k1 (at_one A3k.out (by decide)))
  have X1 := Lib.hid (own_step (own_step (own_chg HX.out K0.out (fun _ _ => id)) HA.out.chg (own_at ORow.out (by decide))) k1 (at_one A3k.out (by decide)))
  have E1 := Lib.hid (((HB.out.own.new K0.out).step HA.out.chg (own_at ORow.out (by decide))).step k1 (at_one A3k.out (by decide)))
  have S1 := Lib.hid (((HSs.out.each.new K0.out).step HA.out.chg (own_at ORow.out (by decide))).step k1 (at_one A3k.out (by decide)))
  have R1 := Lib.hid (own_step (own_chg (own_chg HSs.out.row K0.out (fun _ _ => id)) HA.out.chg (fun b hb e => HNe.out b e.symm hb)) k1 (at_one A3k.out (by decide)))
  have C1 : Hid (Chg (From b2) w wb) := Lib.hid (((K0.out.no).trans HA.out.chg (fun i _ hi => (ORow.out.lt i hi.symm).1)).trans k1 (fun i _ hi => by have := HB.out.le.2; cases hi; exact this))
  have hc1 : wb.cell? ⟨k, 1, none⟩ = some (.slice As ss.length cs) := by rw [hA1.cell]; rfl
  have hg1 := hA1.frozen 1
  have A1 := Lib.hid hA1
  clear k1 hA1 hk0 hk1 hfz hfz1 hq0 hf0
  go_region_law (first
      | (go_simp; go_at_call 23; refine (twin_any _ _ x.2.2 wb.drew (RdV.of_own X1.out) hl).mono ?_; rintro e w4 ⟨v2, rfl, h2, k2⟩; obtain ⟨A2, c2, hv2, _⟩ := own_sl h2; subst hv2; have a4 := At.chg (w := wb.drew) A1.out k2 id; have q8 : w4.cell? ⟨k, 1, none⟩ = some (.slice As ss.length cs) := (by rw [a4.cell]; rfl); have A5 := Lib.hid (a4.alloc (.cells #[.slice A2 x.2.2.length c2] 24)); clear a4; have q9 : (w4.alloc (.cells #[.slice A2 x.2.2.length c2] 24)).cell? ⟨k, 1, none⟩ = some (.slice As ss.length cs) := (by rw [A5.out.cell]; rfl); have H2 := Lib.hid (own_chg h2 ((Chg.refl No w4).alloc (.cells #[.slice A2 x.2.2.length c2] 24)) (fun _ _ => id)); clear h2; have K4 := Lib.hid ((((Chg.refl No wb).drew).tr k2).alloc (.cells #[.slice A2 x.2.2.length c2] 24)); clear k2; have OS := Lib.hid (own_chg R1.out K4.out (fun _ _ => id)))
      | (refine step_app rfl (.tmp 24) (.tmp 27) 22 rfl b2 24 i0 _ 1 24 Try.underlying22 hi hz0 hz1 hz2 rfl (by decide) (.slice As ss.length cs) ss.length (ss.map slOf) rfl OS.out (some ⟨w4.heap.size, 0, none⟩) 1 1 [slOf (A2, c2, x.2.2)] rfl (RdV.lit w4 #[.slice A2 x.2.2.length c2] 24 (0, 0)) rfl (slOf_one [(A2, c2, x.2.2)]) (by have := L0.out.2; have := HLen.out; unfold maxLen; omega) (by have := L0.out.2; have := HLen.out; omega) (Nat.le_trans L0.out.1 (Nat.le_trans C1.out.size K4.out.size)) ?_; intro v5 w5 hap; have HA5 := Lib.hid hap; clear hap; obtain ⟨B5, c5, hv5, _⟩ := own_rd HA5.out.own; subst hv5; have a6 := A5.out.chg HA5.out.chg (fun e => own_ne_at OS.out A5.out (by decide) e); have hf6 := a6.frozen 1; have hq6 : w5.cell? ⟨k, 1, none⟩ = some (.slice As ss.length cs) := (by rw [a6.cell]; rfl); have A6 := Lib.hid a6; clear a6))
  all_goals
    go_wp2_with fail
    go_end0
    have k7 := chg_set w5 k 1 (.slice B5 (ss.length + 1) c5)
    have a7 := A6.out.set 1 (.slice B5 (ss.length + 1) c5)
    have NE1 : ∀ g, (Value.slice A3 (es.length + 1) c3).ownBlock = some g → (Value.slice As ss.length cs).ownBlock ≠ some g := fun g hg hs => by
      rcases HA.out.at_ with e | e
      · exact HNe.out g (e ▸ hg) hs
      · have h1 := (HSs.out.row.lt g hs).2
        have h2 := hg.symm.trans e
        injection h2 with h2
        simp at h2
        omega
    have NE2 : ∀ g, (Value.slice A3 (es.length + 1) c3).ownBlock = some g → (Value.slice B5 (ss.length + 1) c5).ownBlock ≠ some g := fun g hg hs => by
      rcases HA5.out.at_ with e | e
      · exact NE1 g hg (e ▸ hs)
      · have h1 := (O1.out.lt g hg).2
        have h2 := hs.symm.trans e
        injection h2 with h2
        have h3 := K4.out.size
        omega
    have hss := (OwnLL.mk OS.out (S1.out.new K4.out)).appd H2.out (Nat.le_trans L0.out.1 C1.out.size) (fun y hy g hg => ((S1.out.own y hy).lt g hg).2) HA5.out
    have hes : OwnL b1 wb (es ++ [x]) := ⟨fun y hy => by
      rcases List.mem_append.1 hy with h | h
      · exact E1.out.own y h
      · simp at h; subst h; exact X1.out, List.pairwise_append.2 ⟨E1.out.apart, by simp, fun y hy z hz => by simp at hz; subst hz; exact HD.out y hy⟩⟩
    refine ⟨rfl, ⟨HB.out.le, ⟨_, _, ss ++ [(A2, c2, x.2.2)], ⟨a7⟩, ?_, ⟨own_step hss.row k7 (at_one A6.out (by decide)), hss.each.step k7 (at_one A6.out (by decide))⟩, ?_, NE2⟩, ?_⟩, ?_⟩
    · have h1 := own_step (own_chg (own_chg O1.out K4.out (fun _ _ => id)) HA5.out.chg (fun b hb e => NE1 b hb e.symm)) k7 (at_one A6.out (by decide))
      simpa using h1
    · rw [txt_append, txt_append, HTx.out]; rfl
    · exact ((hes.new K4.out).step HA5.out.chg (own_at OS.out (by decide))).step k7 (at_one A6.out (by decide))
    · exact ((C1.out.new K4.out).trans HA5.out.chg (fun i _ hi => (OS.out.lt i hi.symm).1)).trans k7 (fun i _ hi => by have := HB.out.le.2; cases hi; exact this)
end Go.Proofs.Ytndfgijdcanbaaa
