/- The document's Need, Split and Whole. -/
import Derived.Test.YtndfgijdcanbaaaWalWakes
import Derived.Test.YtndfgijdcanbaaaGot
namespace Go.Proofs.Ytndfgijdcanbaaa
open Go.RowKit
set_option linter.unusedVariables false

theorem rneed_any (n : Int) (w : World) (hn : -9223372036854775808 ≤ n ∧ n ≤ 9223372036854775807) :
    Calls Try.prog 16 #[.int .i64 n] w fun e w' => e = .returned (.int .i64 (needI n)) ∧ w' = w := by
  by_cases h0 : n < 0
  · have e : needI n = 0 := if_neg (show ¬ 0 ≤ n by omega)
    rw [e]
    go_enter Try.func16, Try.ntmps16
    go_wp2_with fail
    go_ret
    exact ⟨rfl, rfl⟩
  · by_cases h1 : 262144 < n
    · have e : needI n = 0 := by
        unfold needI needN
        rw [if_pos (by omega), if_neg (by omega)]
        rfl
      rw [e]
      go_enter Try.func16, Try.ntmps16
      go_wp2_with fail
      go_ret
      exact ⟨rfl, rfl⟩
    · by_cases h2 : n = 0
      · subst h2
        go_enter Try.func16, Try.ntmps16
        go_wp2_with fail
        go_ret
        exact ⟨rfl, rfl⟩
      · have e : needI n = (n + 479 - 1) / 479 := by
          unfold needI needN
          rw [if_pos (by omega), if_pos (by omega)]
          omega
        have e1 : IntKind.i64.wrap (n + 479) = n + 479 := by rw [IntKind.wrap_i64]; omega
        have e2 : IntKind.i64.wrap (n + 479 - 1) = n + 479 - 1 := by rw [IntKind.wrap_i64]; omega
        have e3 : Int.tdiv (n + 479 - 1) 479 = (n + 479 - 1) / 479 := Int.tdiv_eq_ediv_of_nonneg (by omega)
        have e4 : IntKind.i64.wrap ((n + 479 - 1) / 479) = (n + 479 - 1) / 479 := by rw [IntKind.wrap_i64]; omega
        have h3 : ¬ n = 0 := h2
        have h4 : (n == 0) = false := by simpa using h2
        rw [e]
        clear e
        go_enter Try.func16, Try.ntmps16
        go_wp2_with fail
        go_ret
        exact ⟨rfl, rfl⟩
/-- A list of rows in memory of one's own. -/
def ToldLL (w0 : World) (F : SP) (l : List (List UInt8)) (e : Ending) (w' : World) : Prop := ∃ A c rs, e = .returned (.slice A rs.length c) ∧ rs.length ≤ c ∧ c ≤ maxLen ∧ txt rs = l ∧ Sat w0 (Row 24 1 (.slice A rs.length c) rs.length (rs.map slOf) * (OwnR rs * F)) w'
/-- What holds ahead of a frame. -/
structure RWh (w0 : World) (F : SP) (ks : Rows_) (k : Nat) (vo vn : Value) (rs : Rows_) (cur : Option (List UInt8)) (nl : List UInt8) (wr : World) : Prop where
  say : whole (txt ks) = txt rs ++ wholeFrom cur (txt (ks.drop k))
  now : cur = none ∨ cur = some nl
  len : nl.length ≤ (txt (ks.take k)).flatten.length
  few : rs.length ≤ k
  sat : Sat w0 (Row 24 1 vo rs.length (rs.map slOf) * (Row 5 1 vn nl.length (nl.map bv) * (OwnR rs * F))) wr
theorem u8_four (c : UInt8) (h : ¬ 3 < c) : c = 0 ∨ c = 1 ∨ c = 2 ∨ c = 3 := by
  have h1 : ¬ 3 < c.toNat := fun e => h (UInt8.lt_iff_toNat_lt.2 (by simpa using e))
  have h2 : c.toNat = 0 ∨ c.toNat = 1 ∨ c.toNat = 2 ∨ c.toNat = 3 := by omega
  rcases h2 with h2 | h2 | h2 | h2
  · exact .inl (UInt8.toNat.inj h2)
  · exact .inr (.inl (UInt8.toNat.inj h2))
  · exact .inr (.inr (.inl (UInt8.toNat.inj h2)))
  · exact .inr (.inr (.inr (UInt8.toNat.inj h2)))
set_option maxRecDepth 10000 in
set_option maxHeartbeats 4000000 in
theorem rwhole_any (A : Option Addr) (c : Nat) (ks : Rows_) (w0 w : World) (F : SP) (hs : Sat w0 F w) (h : RdL w0 A ks) (hcap : ∀ k ∈ ks, k.2.2.length ≤ k.2.1 ∧ k.2.1 ≤ maxLen) (htot : (txt ks).flatten.length ≤ 140737488355328) (hks : ks.length ≤ 1000000) :
    Calls Try.prog 14 #[.slice A ks.length c] w (ToldLL w0 F (whole (txt ks))) := by
  obtain ⟨i0, hi, hz0, hz1, hz2⟩ := info_parts info_sl
  have Hi := Lib.hid hi; have Hz0 := Lib.hid hz0; have Hz1 := Lib.hid hz1; have Hz2 := Lib.hid hz2
  obtain ⟨j0, hj, hy0, hy1, hy2⟩ := info_parts info_u8
  have Hj := Lib.hid hj; have Hy0 := Lib.hid hy0; have Hy1 := Lib.hid hy1; have Hy2 := Lib.hid hy2
  have HS := Lib.hid hs
  have HR := Lib.hid h
  have HT := Lib.hid htot
  have HCap := Lib.hid hcap
  clear h htot hcap hs hi hz0 hz1 hz2 hj hy0 hy1 hy2
  go_enter Try.func14, Try.ntmps14
  go_wp2
  go_loopw [3, 4, 5, 6] (fun vo vn begun i wr => ∃ k : Nat, k ≤ ks.length ∧ i = .int .i64 k ∧ ∃ rs cur nl, begun = .bool cur.isSome ∧ Hid (RWh w0 F ks k vo vn rs cur nl wr)) (fun _ _ _ i _ => ks.length - (intOf i).toNat)
  case atStart => exact ⟨0, by omega, rfl, [], none, [], rfl, ⟨by simp [txt, whole], .inl rfl, by simp, by simp, (((HS.out.of (emp_star F).symm).row_nil 5 1).row_nil 24 1)⟩⟩
  case round =>
    obtain ⟨k, hk, rfl, rs, cur, nl, rfl, HD⟩ := hrel
    obtain ⟨OA, oc, rfl, ho1, ho2⟩ := HD.out.sat.row_sl
    obtain ⟨NA, nc, rfl, _, _⟩ := HD.out.sat.up2.row_sl
    have Ho2 := Lib.hid ho2
    clear ho2
    by_cases hlt : k < ks.length
    · obtain ⟨⟨b, o, rfl, hc⟩, hx⟩ := (HR.out.get hlt)
      have hcw := HD.out.sat.chg.cell hc id
      have HX := Lib.hid (hx.new HD.out.sat.chg)
      have HX0 := Lib.hid hx
      have HF := Lib.hid (flat_take ks k hlt)
      have HC := Lib.hid (HCap.out ks[k] (List.getElem_mem hlt))
      have HDr : Hid (txt (ks.drop k) = ks[k].2.2 :: txt (ks.drop (k + 1))) := by rw [List.drop_eq_getElem_cons hlt]; rfl
      have hle1 := flat_le ks (k + 1)
      rw [HF.out, List.length_append] at hle1
      have L1 : Hid ((txt (ks.take k)).flatten.length + ks[k].2.2.length ≤ 140737488355328) := by have := HT.out; unfold Hid; omega
      clear hx hle1 hc
      generalize ks[k] = x at *
      obtain ⟨Ax, cx, fx⟩ := x
      rcases fx with _ | ⟨c0, r0⟩
      · go_wp2_with fail
        go_ret
        refine ⟨OA, oc, rs, rfl, ho1, Ho2.out, ?_, HD.out.sat.drop2⟩
        have h1 := HD.out.say
        rw [HDr.out] at h1
        rw [h1]
        cases cur <;> simp [wholeFrom]
      · obtain ⟨b2, o2, e2, hc2⟩ := HX.out.get (j := 0) (by simp)
        have e2' : Ax = some ⟨b2, o2, none⟩ := e2
        subst e2'
        simp only [Nat.add_zero, List.getElem_cons_zero] at hc2
        clear e2
        have hc02 : w0.cell? ⟨b2, o2, none⟩ = some (.int .u8 (c0.toNat : Int)) := by
          obtain ⟨b3, o3, e3, hc3⟩ := HX0.out.get (j := 0) (by simp)
          injection e3 with e3
          injection e3 with e3 e4
          subst e3
          subst e4
          simpa using hc3
        by_cases h3 : 3 < c0
        · have h3' : (3 : Int) < (c0.toNat : Int) := by have := UInt8.lt_iff_toNat_lt.1 h3; simp at this; omega
          go_wp2_with fail
          go_ret
          refine ⟨OA, oc, rs, rfl, ho1, Ho2.out, ?_, HD.out.sat.drop2⟩
          have h1 := HD.out.say
          rw [HDr.out] at h1
          rw [h1]
          cases cur <;> simp [wholeFrom, h3]
        · have HSay : Hid (whole (txt ks) = txt rs ++ wholeFrom cur ((c0 :: r0) :: txt (ks.drop (k + 1)))) := by have := HD.out.say; rw [HDr.out] at this; exact this
          have hcx : (c0 :: r0).length ≤ cx := HC.out.1
          have hcx2 : cx ≤ 9223372036854775807 := HC.out.2
          simp only [List.length_cons] at hcx
          have HR1 : Hid (Rd wr (some ⟨b2, o2 + 1, none⟩) r0) := by
            intro hne
            refine ⟨b2, o2 + 1, rfl, fun j hj => ?_⟩
            obtain ⟨b3, o3, e3, hcell⟩ := HX.out.get (j := j + 1) (by simp at hj ⊢; omega)
            injection e3 with e3
            injection e3 with e3 e4
            subst e3
            subst e4
            rw [Nat.add_assoc, Nat.add_comm 1 j, hcell]
            simp [bv]
          have HR2 : Hid (cx = 1 → Rd wr (some ⟨b2, o2, none⟩) r0) := fun h1 => by
            have : r0 = [] := List.eq_nil_of_length_eq_zero (by omega)
            rw [this]
            exact Rd.nil _ _
          have HRT : Hid (Rd wr (if cx = 1 then some ⟨b2, o2, none⟩ else some ⟨b2, o2 + 1, none⟩) r0) := by
            by_cases h1 : cx = 1
            · rw [if_pos h1]; exact HR2.out h1
            · rw [if_neg h1]; exact HR1.out
          have HL1 : Hid (nl.length + r0.length ≤ (txt (ks.take (k + 1))).flatten.length) := by
            have := HD.out.len
            rw [HF.out, List.length_append]
            simp only [List.length_cons]
            unfold Hid
            omega
          have HL2 : Hid (r0.length ≤ (txt (ks.take (k + 1))).flatten.length) := by have := HL1.out; unfold Hid; omega
          have hLb : nl.length + r0.length ≤ 140737488355328 := by
            have h8 := HD.out.len
            have h9 : (txt (ks.take k)).flatten.length + (c0 :: r0).length ≤ 140737488355328 := L1.out
            rw [List.length_cons] at h9
            omega
          have hfew := HD.out.few
          rcases u8_four c0 h3 with rfl | rfl | rfl | rfl
          · rcases cur with _ | b0
            · go_wp2_with fail
              go_roundw
              · refine ⟨k + 1, by omega, by go_num, rs, none, nl, rfl, ⟨?_, .inl rfl, by have := HL1.out; omega, by omega, HD.out.sat⟩⟩
                rw [HSay.out, wholeFrom, if_neg h3]
                rfl
              · simp [intOf]; omega
            · have hb0 : b0 = nl := by
                rcases HD.out.now with h | h
                · cases h
                · injection h
              rw [hb0] at HSay
              clear hb0
              have HB0 : Hid (w0.cell? ⟨b2, o2, none⟩ = some (.int .u8 0)) := hc02
              have HSn : Hid (Sat w0 (Row 5 1 (.slice NA nl.length nc) nl.length (nl.map bv) * (Row 24 1 (.slice OA rs.length oc) rs.length (rs.map slOf) * (OwnR rs * F))) wr) := HD.out.sat.up2
              clear hc02
              go_wp2_with (at_builtin; refine wpList_appS rfl (.tmp 35) (.tmp 37) 24 rfl 5 j0 _ 1 1 Try.underlying24 Hj.out Hy0.out Hy1.out Hy2.out rfl (by decide) (.slice NA nl.length nc) nl.length (nl.map bv) rfl w0 _ HSn.out _ r0.length _ (r0.map bv) rfl (by exact HRT.out) (by simp) (bv_one _) (by unfold maxLen; omega) (by omega) ?_; intro A3 c3 w3 hs3; rw [← List.map_append] at hs3; have hc3 := hs3.chg.cell HB0.out id; have HS3 := Lib.hid hs3; clear hs3)
              all_goals
                go_roundw
                · refine ⟨k + 1, by omega, by go_num, rs, some (nl ++ r0), (nl ++ r0), rfl, ⟨?_, .inr rfl, by have := HL1.out; (try rw [List.length_append]); omega, by omega, ?_⟩⟩
                  · rw [HSay.out, wholeFrom, if_neg h3]
                    rfl
                  · rw [List.length_append]
                    exact HS3.out.up2
                · simp [intOf]; omega
          · have HB0 : Hid (w0.cell? ⟨b2, o2, none⟩ = some (.int .u8 1)) := hc02
            have HSn : Hid (Sat w0 (Row 5 1 (.slice none 0 0) 0 [] * (Row 24 1 (.slice OA rs.length oc) rs.length (rs.map slOf) * (OwnR rs * F))) wr) := (HD.out.sat.up2.right.row_nil 5 1)
            clear hc02
            go_wp2_with (at_builtin; refine wpList_appS rfl (.tmp 35) (.tmp 37) 24 rfl 5 j0 _ 1 1 Try.underlying24 Hj.out Hy0.out Hy1.out Hy2.out rfl (by decide) (.slice none 0 0) 0 [] rfl w0 _ HSn.out _ r0.length _ (r0.map bv) rfl (by exact HRT.out) (by simp) (bv_one _) (by unfold maxLen; omega) (by omega) ?_; intro A3 c3 w3 hs3; rw [Nat.zero_add, List.nil_append] at hs3; have hc3 := hs3.chg.cell HB0.out id; have HS3 := Lib.hid hs3; clear hs3)
            all_goals
              go_roundw
              · refine ⟨k + 1, by omega, by go_num, rs, some r0, r0, rfl, ⟨?_, .inr rfl, by have := HL2.out; (try rw [List.length_append]); omega, by omega, ?_⟩⟩
                · rw [HSay.out, wholeFrom, if_neg h3]
                  rfl
                · skip
                  exact HS3.out.up2
              · simp [intOf]; omega
          · rcases cur with _ | b0
            · go_wp2_with fail
              go_roundw
              · refine ⟨k + 1, by omega, by go_num, rs, none, nl, rfl, ⟨?_, .inl rfl, by have := HL1.out; omega, by omega, HD.out.sat⟩⟩
                rw [HSay.out, wholeFrom, if_neg h3]
                rfl
              · simp [intOf]; omega
            · have hb0 : b0 = nl := by
                rcases HD.out.now with h | h
                · cases h
                · injection h
              rw [hb0] at HSay
              clear hb0
              have HB0 : Hid (w0.cell? ⟨b2, o2, none⟩ = some (.int .u8 2)) := hc02
              have HSn : Hid (Sat w0 (Row 5 1 (.slice NA nl.length nc) nl.length (nl.map bv) * (Row 24 1 (.slice OA rs.length oc) rs.length (rs.map slOf) * (OwnR rs * F))) wr) := HD.out.sat.up2
              clear hc02
              go_wp2_with (first
                | (at_builtin; refine wpList_appS rfl (.tmp 35) (.tmp 37) 24 rfl 5 j0 _ 1 1 Try.underlying24 Hj.out Hy0.out Hy1.out Hy2.out rfl (by decide) (.slice NA nl.length nc) nl.length (nl.map bv) rfl w0 _ HSn.out _ r0.length _ (r0.map bv) rfl (by exact HRT.out) (by simp) (bv_one _) (by unfold maxLen; omega) (by omega) ?_; intro A3 c3 w3 hs3; rw [← List.map_append] at hs3; have hc3 := hs3.chg.cell HB0.out id; have HS3 := Lib.hid hs3; clear hs3)
                | (at_builtin; refine wpList_appS rfl (.tmp 43) (.tmp 45) 22 rfl 24 i0 _ 1 24 Try.underlying22 Hi.out Hz0.out Hz1.out Hz2.out rfl (by decide) (.slice OA rs.length oc) rs.length (rs.map slOf) rfl w0 _ (by exact (HS3.out.alloc' _).up2) (some ⟨w3.heap.size, 0, none⟩) 1 1 [.slice A3 (nl.length + r0.length) c3] rfl (lit_rdv _ _ _) rfl (fun u hu => by rw [List.mem_singleton.1 hu]; rfl) (by unfold maxLen; omega) (by omega) ?_; intro A4 c4 w4 hs4; have HS4 := Lib.hid hs4; clear hs4))
              all_goals
                go_roundw
                · refine ⟨k + 1, by omega, by go_num, rs ++ [(A3, c3, (nl ++ r0))], none, [], rfl, ⟨?_, .inl rfl, by simp, by simp only [List.length_append, List.length_singleton]; omega, ?_⟩⟩
                  · rw [HSay.out, wholeFrom, if_neg h3]
                    rw [txt_append, List.append_assoc]
                    rfl
                  · have h9 := HS4.out.row_nil 5 1
                    rw [ownR_snoc, List.map_append, List.length_append]
                    show Sat w0 (Row _ _ (.slice A4 (rs.length + 1) c4) (rs.length + 1) (rs.map slOf ++ [.slice A3 (nl ++ r0).length c3]) * (Row _ _ (.slice none 0 0) 0 [] * ((Row _ _ (.slice A3 (nl ++ r0).length c3) (nl ++ r0).length ((nl ++ r0).map bv) * OwnR rs) * F))) _
                    rw [List.length_append]
                    exact h9.up2.of (by ac_rfl)
                · simp [intOf]; omega
          · have HB0 : Hid (w0.cell? ⟨b2, o2, none⟩ = some (.int .u8 3)) := hc02
            have HSn : Hid (Sat w0 (Row 5 1 (.slice none 0 0) 0 [] * (Row 24 1 (.slice OA rs.length oc) rs.length (rs.map slOf) * (OwnR rs * F))) wr) := (HD.out.sat.up2.right.row_nil 5 1)
            clear hc02
            go_wp2_with (first
              | (at_builtin; refine wpList_appS rfl (.tmp 35) (.tmp 37) 24 rfl 5 j0 _ 1 1 Try.underlying24 Hj.out Hy0.out Hy1.out Hy2.out rfl (by decide) (.slice none 0 0) 0 [] rfl w0 _ HSn.out _ r0.length _ (r0.map bv) rfl (by exact HRT.out) (by simp) (bv_one _) (by unfold maxLen; omega) (by omega) ?_; intro A3 c3 w3 hs3; rw [Nat.zero_add, List.nil_append] at hs3; have hc3 := hs3.chg.cell HB0.out id; have HS3 := Lib.hid hs3; clear hs3)
              | (at_builtin; refine wpList_appS rfl (.tmp 43) (.tmp 45) 22 rfl 24 i0 _ 1 24 Try.underlying22 Hi.out Hz0.out Hz1.out Hz2.out rfl (by decide) (.slice OA rs.length oc) rs.length (rs.map slOf) rfl w0 _ (by exact (HS3.out.alloc' _).up2) (some ⟨w3.heap.size, 0, none⟩) 1 1 [.slice A3 r0.length c3] rfl (lit_rdv _ _ _) rfl (fun u hu => by rw [List.mem_singleton.1 hu]; rfl) (by unfold maxLen; omega) (by omega) ?_; intro A4 c4 w4 hs4; have HS4 := Lib.hid hs4; clear hs4))
            all_goals
              go_roundw
              · refine ⟨k + 1, by omega, by go_num, rs ++ [(A3, c3, r0)], none, [], rfl, ⟨?_, .inl rfl, by simp, by simp only [List.length_append, List.length_singleton]; omega, ?_⟩⟩
                · rw [HSay.out, wholeFrom, if_neg h3]
                  rw [txt_append, List.append_assoc]
                  rfl
                · have h9 := HS4.out.row_nil 5 1
                  rw [ownR_snoc, List.map_append, List.length_append]
                  show Sat w0 (Row _ _ (.slice A4 (rs.length + 1) c4) (rs.length + 1) (rs.map slOf ++ [.slice A3 r0.length c3]) * (Row _ _ (.slice none 0 0) 0 [] * ((Row _ _ (.slice A3 r0.length c3) r0.length (r0.map bv) * OwnR rs) * F))) _
                  skip
                  exact h9.up2.of (by ac_rfl)
              · simp [intOf]; omega
    · have ht : ks.drop k = [] := List.drop_of_length_le (by omega)
      go_wp2_with fail
      go_ret
      refine ⟨OA, oc, rs, rfl, ho1, Ho2.out, ?_, HD.out.sat.drop2⟩
      have h1 := HD.out.say
      rw [ht] at h1
      rw [h1]
      simp [txt, wholeFrom_nil]
end Go.Proofs.Ytndfgijdcanbaaa
