/- The Book as a part: Bytes. (Written in part by gen_bookb.py.) -/
import Derived.Test.YtaoenbjfkahdjaaQ09
import Derived.Test.YtaoenbjfkahdjaaQ10
namespace Go.Proofs.Ytaoenbjfkahdjaa
open Go.RowKit
set_option linter.unusedVariables false
set_option maxRecDepth 100000

theorem bookS_bytes (k : Nat) (es : Rows_) (x : Option Addr × Nat × List UInt8) (w0 w : World) (F : SP) (h : Sat w0 (Row 5 1 (slOf x) x.2.2.length (x.2.2.map bv) * (BookP k es * F)) w) (hn : es.length < 400) (hl : x.2.2.length ≤ 140737488355328) :
    Calls Try.prog 26 #[.pointer (some ⟨k, 0, none⟩), .slice x.1 x.2.2.length x.2.1] w fun e w' => e = .returned (.tuple #[]) ∧ Sat w0 (BookP k (es ++ [x]) * F) w' := by
  obtain ⟨i0, hi, hz0, hz1, hz2⟩ := info_parts info_sl
  have Hi := Lib.hid hi; have Hz0 := Lib.hid hz0; have Hz1 := Lib.hid hz1; have Hz2 := Lib.hid hz2
  obtain ⟨vb, vs, ss, ht, h1⟩ := (h.up2).bookP
  have hlen : ss.length = es.length := by have := congrArg List.length ht; simpa [txt] using this
  have h2 := h1.of (book_d ..)
  obtain ⟨Ab, cb, rfl, hb1, hb2⟩ := (h2.up2).row_sl
  obtain ⟨As, cs, rfl, hs1, hs2⟩ := (h2.up3).row_sl
  have c0 := h2.cell 0
  have f0 := h2.frozen 0
  have hn' : (es.length : Int) < 400 := by omega
  have HS := Lib.hid h2
  have HT := Lib.hid ht
  have hss : ss.length < 400 := by omega
  clear h h1 h2 ht hlen hi hz0 hz1 hz2
  go_enter Try.func26, Try.ntmps26
  go_upto_region 2 with (at_builtin; refine wpList_appS rfl (.tmp 14) (.tmp 16) 24 rfl 32 i0 _ 1 24 Try.underlying24 Hi.out Hz0.out Hz1.out Hz2.out rfl (by decide) (.slice Ab es.length cb) es.length (es.map slOf) rfl w0 _ (by exact (HS.out.alloc' _).up2) (some ⟨w.heap.size, 0, none⟩) 1 1 [slOf x] rfl (lit_rdv _ _ _) rfl (slOf_one [x]) (by unfold maxLen; omega) (by omega) ?_; intro A3 c3 w3 hs3; have q0 := hs3.up2.cell 0; have q1 := hs3.up2.frozen 0; have HS3 := Lib.hid (hs3.up2.set 0 (.slice A3 (es.length + 1) c3)); clear hs3)
  obtain ⟨w4, hw4⟩ : ∃ w4, w4 = w3.setCell ⟨k, 0, none⟩ (.slice A3 (es.length + 1) c3) := ⟨_, rfl⟩
  rw [← hw4] at HS3
  rw [← hw4]
  clear hw4 q0 q1 c0 f0 HS
  have hs4 : Sat w0 (Pt k 57 #[.slice A3 (es.length + 1) c3, .slice As ss.length cs, .slice none 0 0, .slice none 0 0, .slice none 0 0, .slice none 0 0] * (Row 32 1 (.slice A3 (es.length + 1) c3) (es.length + 1) (es.map slOf ++ [slOf x]) * (Row 32 1 (.slice As ss.length cs) ss.length (ss.map slOf) * (OwnR es * (OwnR ss * (Row 5 1 (slOf x) x.2.2.length (x.2.2.map bv) * F)))))) w4 := HS3.out
  have c1 := hs4.cell 1
  have HS4 := Lib.hid hs4
  have HRx : Hid (Rd w4.drew x.1 x.2.2) := RdV.of_own ((hs4.drew.up6).row_own)
  clear hs4 HS3
  go_region_law (first
    | (go_simp; go_at_call 78; refine (twin_any _ _ x.2.2 _ HRx.out hl).mono ?_; rintro e w5 ⟨v2, rfl, h2, k2⟩; have hs5 := HS4.out.drew.gotRow k2 h2; obtain ⟨A2, c2, hv2, _⟩ := hs5.row_sl; subst hv2; have y1 := hs5.up2.cell 1; have y2 := fun o => (hs5.alloc' o).up2.cell 1; have HS5 := Lib.hid hs5; clear hs5 h2 k2)
    | (refine step_appS rfl (.tmp 24) (.tmp 27) 24 rfl 32 i0 _ 1 24 Try.underlying24 Hi.out Hz0.out Hz1.out Hz2.out rfl (by decide) (.slice As ss.length cs) ss.length (ss.map slOf) rfl w0 _ (by exact (HS5.out.alloc' _).up4) (some ⟨w5.heap.size, 0, none⟩) 1 1 [slOf (A2, c2, x.2.2)] rfl (lit_rdv _ _ _) rfl (slOf_one [(A2, c2, x.2.2)]) (by unfold maxLen; omega) (by omega) ?_; intro A7 c7 w7 hs7; have z1 := hs7.up3.cell 1; have z2 := hs7.up3.frozen 1; have HS7 := Lib.hid hs7; clear hs7))
  all_goals
    have HS8 := Lib.hid (HS7.out.up3.set 1 (.slice A7 (ss.length + 1) c7))
    go_wp2_with fail
    go_end0
    refine ⟨rfl, ?_⟩
    have h9 : Sat w0 (Pt k 57 #[.slice A3 (es.length + 1) c3, .slice A7 (ss.length + 1) c7, .slice none 0 0, .slice none 0 0, .slice none 0 0, .slice none 0 0] * (Row 32 1 (.slice A7 (ss.length + 1) c7) (ss.length + 1) (ss.map slOf ++ [slOf (A2, c2, x.2.2)]) * (Row 5 1 (.slice A2 x.2.2.length c2) x.2.2.length (x.2.2.map bv) * (Row 32 1 (.slice A3 (es.length + 1) c3) (es.length + 1) (es.map slOf ++ [slOf x]) * (OwnR es * (OwnR ss * (Row 5 1 (slOf x) x.2.2.length (x.2.2.map bv) * F))))))) _ := HS8.out
    refine Sat.bookI (es := es ++ [x]) (vb := .slice A3 (es.length + 1) c3) (vs := .slice A7 (ss.length + 1) c7) (ss := ss ++ [(A2, c2, x.2.2)]) ((txt_append _ _).trans (by rw [HT.out]; exact (txt_append es [x]).symm)) (h9.of ?_)
    rw [book_d, ownR_snoc, ownR_snoc, List.map_append, List.map_append, List.length_append, List.length_append]
    show Pt k _ _ * (Row _ _ _ _ _ * (Row _ _ _ _ _ * (Row _ _ _ _ _ * (OwnR es * (OwnR ss * (Row _ _ _ _ _ * F)))))) = Pt k _ _ * (Row _ _ _ _ _ * (Row _ _ _ _ _ * ((Row _ _ _ _ _ * OwnR es) * ((Row _ _ _ _ _ * OwnR ss) * F))))
    ac_rfl
end Go.Proofs.Ytaoenbjfkahdjaa
