/- The document's Split. -/
import Derived.Test.YtndfgijdcanbaaaWalRef
namespace Go.Proofs.Ytndfgijdcanbaaa
open Go.RowKit
set_option linter.unusedVariables false

def lenV : Value → Nat
  | .slice _ n _ => n
  | _ => 0
def oneV : Value → Nat
  | .bool true => 1
  | _ => 0
theorem piece_take (b : List UInt8) (k : Nat) : (b.drop (k * 479)).take 479 = piece b k := by
  unfold piece
  by_cases h : (k + 1) * 479 ≤ b.length
  · rw [Nat.min_eq_left h, List.drop_take, show (k + 1) * 479 - k * 479 = 479 by omega]
  · rw [Nat.min_eq_right (by omega), List.take_length, List.take_of_length_le (by rw [List.length_drop]; omega)]
theorem split_take (b : List UInt8) {k : Nat} (h : k < needN b.length) : (split b).take (k + 1) = (split b).take k ++ [frame b k] := by
  have h1 : k < (split b).length := by rw [length_split]; exact h
  rw [List.take_succ_eq_append_getElem h1]
  simp [split]
/-- What holds ahead of a piece. -/
structure RSp (w0 : World) (F : SP) (b : List UInt8) (k : Nat) (A : Option Addr) (c : Nat) (vo : Value) (rs : Rows_) (wr : World) : Prop where
  rd : Rd w0 A (b.drop (k * 479))
  lec : (b.drop (k * 479)).length ≤ c
  maxc : c ≤ 9223372036854775807
  few : k ≤ needN b.length
  say : txt rs = (split b).take k
  len : rs.length = k
  sat : Sat w0 (Row 24 1 vo rs.length (rs.map slOf) * (OwnR rs * F)) wr
set_option maxRecDepth 10000 in
set_option maxHeartbeats 4000000 in
theorem rsplit_any (A : Option Addr) (c : Nat) (b : List UInt8) (w0 w : World) (F : SP) (hs : Sat w0 F w) (h : Rd w0 A b) (hc : b.length ≤ c) (hmax : c ≤ 9223372036854775807) (hb : b.length ≤ 262144) :
    Calls Try.prog 13 #[.slice A b.length c] w (ToldLL w0 F (split b)) := by
  obtain ⟨i0, hi, hz0, hz1, hz2⟩ := info_parts info_sl
  have Hi := Lib.hid hi; have Hz0 := Lib.hid hz0; have Hz1 := Lib.hid hz1; have Hz2 := Lib.hid hz2
  obtain ⟨j0, hj, hy0, hy1, hy2⟩ := info_parts info_u8
  have Hj := Lib.hid hj; have Hy0 := Lib.hid hy0; have Hy1 := Lib.hid hy1; have Hy2 := Lib.hid hy2
  have HS := Lib.hid hs
  have HR := Lib.hid h
  have hN : 1 ≤ needN b.length ∧ needN b.length ≤ 548 := ⟨needN_pos _ hb, needN_le _⟩
  have hNc := needN_cover b.length hb
  have hNd : ∀ k, k < needN b.length → 0 < k → k * 479 < b.length := fun k h1 h2 => by unfold needN at h1; rw [if_pos hb] at h1; omega
  have HN := Lib.hid hNc
  have HNd := Lib.hid hNd
  clear h hs hi hz0 hz1 hz2 hj hy0 hy1 hy2 hNc hNd
  go_enter Try.func13, Try.ntmps13
  go_wp2
  go_loopw [0, 3, 4] (fun batch vo first wr => ∃ (k : Nat) (A' : Option Addr) (c' : Nat) (rs : Rows_), batch = .slice A' (b.length - k * 479) c' ∧ first = .bool (decide (k = 0)) ∧ Hid (RSp w0 F b k A' c' vo rs wr)) (fun batch _ first _ => oneV first + lenV batch)
  case atStart => exact ⟨0, A, c, [], by rw [Nat.zero_mul, Nat.sub_zero], rfl, ⟨by simpa using HR.out, by simpa using hc, hmax, by omega, by simp [txt], rfl, (HS.out.of (emp_star F).symm).row_nil 24 1⟩⟩
  case round =>
    obtain ⟨k, A', c', rs, rfl, rfl, HD⟩ := hrel
    obtain ⟨OA, oc, rfl, ho1, ho2⟩ := HD.out.sat.row_sl
    have Ho2 := Lib.hid ho2
    have HRL := Lib.hid HD.out.len
    have hk := HD.out.few
    clear ho2
    obtain ⟨d, hd⟩ : ∃ d, d = b.drop (k * 479) := ⟨_, rfl⟩
    have hdl : b.length - k * 479 = d.length := by rw [hd, List.length_drop]
    have HRd0 : Hid (Rd w0 A' d) := by rw [hd]; exact HD.out.rd
    have HRd : Hid (Rd wr A' d) := by rw [hd]; exact (HD.out.rd).new HD.out.sat.chg
    have hcl : d.length ≤ c' := by rw [hd]; exact HD.out.lec
    have hcm := HD.out.maxc
    have hbl : b.length ≤ 262144 := hb
    rw [hdl]
    by_cases hgo : k = 0 ∨ 0 < d.length
    · have hkN : k < needN b.length := by
        rcases hgo with h | h
        · omega
        · have := HN.out
          unfold needN at this ⊢
          rw [if_pos hb] at this ⊢
          omega
      have HT := Lib.hid (split_take b hkN)
      have HP := Lib.hid (piece_take b k)
      have hlast : d.length ≤ 479 ↔ k + 1 = needN b.length := by
        have h1 := HN.out
        have h2 := HNd.out (k + 1)
        constructor
        · intro h
          by_cases h3 : k + 1 < needN b.length
          · have := h2 h3 (by omega); omega
          · omega
        · intro h
          rw [← h] at h1
          omega
      have HLast := Lib.hid hlast
      have HDd := Lib.hid hd
      clear hlast hd
      by_cases hk0 : k = 0
      · by_cases hl : d.length ≤ 479
        · have HFr : Hid (frame b k = (3 : UInt8) :: d.take d.length) := by
            unfold frame flagOf Hid
            rw [if_pos hk0, if_pos (HLast.out.1 hl), ← HP.out, ← HDd.out]
            rw [List.take_of_length_le hl, List.take_length]
            rfl
          have hkd : decide (k = 0) = true := decide_eq_true hk0
          rw [hkd]
          have hli : ¬ (479 : Int) < (d.length : Nat) := by omega
          have htl : (d.take d.length).length = d.length := by rw [List.length_take]; omega
          have HK0 := Lib.hid hk0
          have HLi := Lib.hid hl
          clear hkd hk0 hl
          go_wp2_with (first
            | (at_builtin; refine wpList_appS rfl (.tmp 29) (.tmp 32) 24 rfl 5 j0 _ 1 1 Try.underlying24 Hj.out Hy0.out Hy1.out Hy2.out rfl (by decide) (.slice (some ⟨wr.heap.size, 0, none⟩) 1 1) 1 [.int .u8 3] rfl w0 _ (Sat.row_pt (cap := 1) (n := 1) (size := 1) (HD.out.sat.allocPt 5 #[.int .u8 3]) (by omega) (by unfold maxLen; omega) rfl) A' d.length c' ((d.take d.length).map bv) rfl ((HRd.out.take d.length).alloc _) (by rw [List.length_map, htl, Nat.mul_one]) (bv_one _) (by unfold maxLen; omega) (by omega) ?_; intro A3 c3 w3 hs3; have HS3 := Lib.hid hs3; clear hs3)
            | (at_builtin; refine wpList_appS rfl (.tmp 27) (.tmp 34) 22 rfl 24 i0 _ 1 24 Try.underlying22 Hi.out Hz0.out Hz1.out Hz2.out rfl (by decide) (.slice OA rs.length oc) rs.length (rs.map slOf) rfl w0 _ (by exact (HS3.out.alloc' _).up2) (some ⟨w3.heap.size, 0, none⟩) 1 1 [.slice A3 (1 + d.length) c3] rfl (lit_rdv _ _ _) rfl (fun u hu => by rw [List.mem_singleton.1 hu]; rfl) (by have := HRL.out; unfold maxLen; omega) (by have := HRL.out; omega) ?_; intro A4 c4 w4 hs4; have HS4 := Lib.hid hs4; clear hs4))
          all_goals
            go_roundw
            · have hll := HLi.out
              refine ⟨k + 1, _, _, rs ++ [(A3, c3, frame b k)], (by congr 1 <;> omega), rfl, ⟨?_, ?_, by omega, by omega, ?_, by rw [List.length_append, List.length_singleton, HRL.out], ?_⟩⟩
              · rw [List.drop_of_length_le (by omega)]
                exact Rd.nil _ _
              · rw [List.drop_of_length_le (by omega)]
                exact Nat.zero_le _
              · rw [txt_append, HD.out.say, HT.out]
                rfl
              · have hfl : (frame b k).length = 1 + d.length := by rw [HFr.out, List.length_cons, htl] <;> omega
                rw [ownR_snoc, List.map_append, List.length_append]
                show Sat w0 (Row _ _ (.slice A4 (rs.length + 1) c4) (rs.length + 1) (rs.map slOf ++ [.slice A3 (frame b k).length c3]) * ((Row _ _ (.slice A3 (frame b k).length c3) (frame b k).length ((frame b k).map bv) * OwnR rs) * F)) _
                rw [hfl, HFr.out]
                exact HS4.out.of (by ac_rfl)
            · simp [oneV, lenV]; omega
        · have HFr : Hid (frame b k = (1 : UInt8) :: d.take 479) := by
            unfold frame flagOf Hid
            rw [if_pos hk0, if_neg (fun e => hl (HLast.out.2 e)), ← HP.out, ← HDd.out]
            rfl
          have hkd : decide (k = 0) = true := decide_eq_true hk0
          rw [hkd]
          have hli : (479 : Int) < (d.length : Nat) := by omega
          have hli2 : (479 == ((d.length : Nat) : Int)) = false := by rw [beq_eq_false_iff_ne]; omega
          have htl : (d.take 479).length = 479 := by rw [List.length_take]; omega
          have HK0 := Lib.hid hk0
          have HLi := Lib.hid hl
          clear hkd hk0 hl
          go_wp2_with (first
            | (at_builtin; refine wpList_appS rfl (.tmp 29) (.tmp 32) 24 rfl 5 j0 _ 1 1 Try.underlying24 Hj.out Hy0.out Hy1.out Hy2.out rfl (by decide) (.slice (some ⟨wr.heap.size, 0, none⟩) 1 1) 1 [.int .u8 1] rfl w0 _ (Sat.row_pt (cap := 1) (n := 1) (size := 1) (HD.out.sat.allocPt 5 #[.int .u8 1]) (by omega) (by unfold maxLen; omega) rfl) A' 479 c' ((d.take 479).map bv) rfl ((HRd.out.take 479).alloc _) (by rw [List.length_map, htl, Nat.mul_one]) (bv_one _) (by unfold maxLen; omega) (by omega) ?_; intro A3 c3 w3 hs3; have HS3 := Lib.hid hs3; clear hs3)
            | (at_builtin; refine wpList_appS rfl (.tmp 27) (.tmp 34) 22 rfl 24 i0 _ 1 24 Try.underlying22 Hi.out Hz0.out Hz1.out Hz2.out rfl (by decide) (.slice OA rs.length oc) rs.length (rs.map slOf) rfl w0 _ (by exact (HS3.out.alloc' _).up2) (some ⟨w3.heap.size, 0, none⟩) 1 1 [.slice A3 480 c3] rfl (lit_rdv _ _ _) rfl (fun u hu => by rw [List.mem_singleton.1 hu]; rfl) (by have := HRL.out; unfold maxLen; omega) (by have := HRL.out; omega) ?_; intro A4 c4 w4 hs4; have HS4 := Lib.hid hs4; clear hs4))
          all_goals
            go_roundw
            · have hll := HLi.out
              refine ⟨k + 1, _, _, rs ++ [(A3, c3, frame b k)], (by congr 1 <;> omega), rfl, ⟨?_, ?_, by omega, by omega, ?_, by rw [List.length_append, List.length_singleton, HRL.out], ?_⟩⟩
              · have hdr := HRd0.out.drop (k := 479) (cap := c') (by omega) hcl
                rw [show d.drop 479 = b.drop ((k + 1) * 479) by rw [HDd.out, List.drop_drop]; congr 1; omega] at hdr
                rw [if_neg (by omega)] at hdr
                exact hdr
              · rw [List.length_drop]
                omega
              · rw [txt_append, HD.out.say, HT.out]
                rfl
              · have hfl : (frame b k).length = 1 + 479 := by rw [HFr.out, List.length_cons, htl] <;> omega
                rw [ownR_snoc, List.map_append, List.length_append]
                show Sat w0 (Row _ _ (.slice A4 (rs.length + 1) c4) (rs.length + 1) (rs.map slOf ++ [.slice A3 (frame b k).length c3]) * ((Row _ _ (.slice A3 (frame b k).length c3) (frame b k).length ((frame b k).map bv) * OwnR rs) * F)) _
                rw [hfl, HFr.out]
                exact HS4.out.of (by ac_rfl)
            · simp [oneV, lenV]; omega
      · by_cases hl : d.length ≤ 479
        · have HFr : Hid (frame b k = (2 : UInt8) :: d.take d.length) := by
            unfold frame flagOf Hid
            rw [if_neg hk0, if_pos (HLast.out.1 hl), ← HP.out, ← HDd.out]
            rw [List.take_of_length_le hl, List.take_length]
            rfl
          have hkd : decide (k = 0) = false := decide_eq_false hk0
          rw [hkd]
          have hli : ¬ (479 : Int) < (d.length : Nat) := by omega
          have hdp : (0 : Int) < (d.length : Nat) := by omega
          have htl : (d.take d.length).length = d.length := by rw [List.length_take]; omega
          have HK0 := Lib.hid hk0
          have HLi := Lib.hid hl
          clear hkd hk0 hl
          go_wp2_with (first
            | (at_builtin; refine wpList_appS rfl (.tmp 29) (.tmp 32) 24 rfl 5 j0 _ 1 1 Try.underlying24 Hj.out Hy0.out Hy1.out Hy2.out rfl (by decide) (.slice (some ⟨wr.heap.size, 0, none⟩) 1 1) 1 [.int .u8 2] rfl w0 _ (Sat.row_pt (cap := 1) (n := 1) (size := 1) (HD.out.sat.allocPt 5 #[.int .u8 2]) (by omega) (by unfold maxLen; omega) rfl) A' d.length c' ((d.take d.length).map bv) rfl ((HRd.out.take d.length).alloc _) (by rw [List.length_map, htl, Nat.mul_one]) (bv_one _) (by unfold maxLen; omega) (by omega) ?_; intro A3 c3 w3 hs3; have HS3 := Lib.hid hs3; clear hs3)
            | (at_builtin; refine wpList_appS rfl (.tmp 27) (.tmp 34) 22 rfl 24 i0 _ 1 24 Try.underlying22 Hi.out Hz0.out Hz1.out Hz2.out rfl (by decide) (.slice OA rs.length oc) rs.length (rs.map slOf) rfl w0 _ (by exact (HS3.out.alloc' _).up2) (some ⟨w3.heap.size, 0, none⟩) 1 1 [.slice A3 (1 + d.length) c3] rfl (lit_rdv _ _ _) rfl (fun u hu => by rw [List.mem_singleton.1 hu]; rfl) (by have := HRL.out; unfold maxLen; omega) (by have := HRL.out; omega) ?_; intro A4 c4 w4 hs4; have HS4 := Lib.hid hs4; clear hs4))
          all_goals
            go_roundw
            · have hll := HLi.out
              refine ⟨k + 1, _, _, rs ++ [(A3, c3, frame b k)], (by congr 1 <;> omega), rfl, ⟨?_, ?_, by omega, by omega, ?_, by rw [List.length_append, List.length_singleton, HRL.out], ?_⟩⟩
              · rw [List.drop_of_length_le (by omega)]
                exact Rd.nil _ _
              · rw [List.drop_of_length_le (by omega)]
                exact Nat.zero_le _
              · rw [txt_append, HD.out.say, HT.out]
                rfl
              · have hfl : (frame b k).length = 1 + d.length := by rw [HFr.out, List.length_cons, htl] <;> omega
                rw [ownR_snoc, List.map_append, List.length_append]
                show Sat w0 (Row _ _ (.slice A4 (rs.length + 1) c4) (rs.length + 1) (rs.map slOf ++ [.slice A3 (frame b k).length c3]) * ((Row _ _ (.slice A3 (frame b k).length c3) (frame b k).length ((frame b k).map bv) * OwnR rs) * F)) _
                rw [hfl, HFr.out]
                exact HS4.out.of (by ac_rfl)
            · simp [oneV, lenV]; omega
        · have HFr : Hid (frame b k = (0 : UInt8) :: d.take 479) := by
            unfold frame flagOf Hid
            rw [if_neg hk0, if_neg (fun e => hl (HLast.out.2 e)), ← HP.out, ← HDd.out]
            rfl
          have hkd : decide (k = 0) = false := decide_eq_false hk0
          rw [hkd]
          have hli : (479 : Int) < (d.length : Nat) := by omega
          have hli2 : (479 == ((d.length : Nat) : Int)) = false := by rw [beq_eq_false_iff_ne]; omega
          have hdp : (0 : Int) < (d.length : Nat) := by omega
          have htl : (d.take 479).length = 479 := by rw [List.length_take]; omega
          have HK0 := Lib.hid hk0
          have HLi := Lib.hid hl
          clear hkd hk0 hl
          go_wp2_with (first
            | (at_builtin; refine wpList_appS rfl (.tmp 29) (.tmp 32) 24 rfl 5 j0 _ 1 1 Try.underlying24 Hj.out Hy0.out Hy1.out Hy2.out rfl (by decide) (.slice (some ⟨wr.heap.size, 0, none⟩) 1 1) 1 [.int .u8 0] rfl w0 _ (Sat.row_pt (cap := 1) (n := 1) (size := 1) (HD.out.sat.allocPt 5 #[.int .u8 0]) (by omega) (by unfold maxLen; omega) rfl) A' 479 c' ((d.take 479).map bv) rfl ((HRd.out.take 479).alloc _) (by rw [List.length_map, htl, Nat.mul_one]) (bv_one _) (by unfold maxLen; omega) (by omega) ?_; intro A3 c3 w3 hs3; have HS3 := Lib.hid hs3; clear hs3)
            | (at_builtin; refine wpList_appS rfl (.tmp 27) (.tmp 34) 22 rfl 24 i0 _ 1 24 Try.underlying22 Hi.out Hz0.out Hz1.out Hz2.out rfl (by decide) (.slice OA rs.length oc) rs.length (rs.map slOf) rfl w0 _ (by exact (HS3.out.alloc' _).up2) (some ⟨w3.heap.size, 0, none⟩) 1 1 [.slice A3 480 c3] rfl (lit_rdv _ _ _) rfl (fun u hu => by rw [List.mem_singleton.1 hu]; rfl) (by have := HRL.out; unfold maxLen; omega) (by have := HRL.out; omega) ?_; intro A4 c4 w4 hs4; have HS4 := Lib.hid hs4; clear hs4))
          all_goals
            go_roundw
            · have hll := HLi.out
              refine ⟨k + 1, _, _, rs ++ [(A3, c3, frame b k)], (by congr 1 <;> omega), rfl, ⟨?_, ?_, by omega, by omega, ?_, by rw [List.length_append, List.length_singleton, HRL.out], ?_⟩⟩
              · have hdr := HRd0.out.drop (k := 479) (cap := c') (by omega) hcl
                rw [show d.drop 479 = b.drop ((k + 1) * 479) by rw [HDd.out, List.drop_drop]; congr 1; omega] at hdr
                rw [if_neg (by omega)] at hdr
                exact hdr
              · rw [List.length_drop]
                omega
              · rw [txt_append, HD.out.say, HT.out]
                rfl
              · have hfl : (frame b k).length = 1 + 479 := by rw [HFr.out, List.length_cons, htl] <;> omega
                rw [ownR_snoc, List.map_append, List.length_append]
                show Sat w0 (Row _ _ (.slice A4 (rs.length + 1) c4) (rs.length + 1) (rs.map slOf ++ [.slice A3 (frame b k).length c3]) * ((Row _ _ (.slice A3 (frame b k).length c3) (frame b k).length ((frame b k).map bv) * OwnR rs) * F)) _
                rw [hfl, HFr.out]
                exact HS4.out.of (by ac_rfl)
            · simp [oneV, lenV]; omega
    · have hk0 : k ≠ 0 := fun e => hgo (.inl e)
      have hd0 : d.length = 0 := by omega
      have hkd : decide (k = 0) = false := decide_eq_false hk0
      have hdi : ((d.length : Nat) : Int) = 0 := by omega
      rw [hkd]
      clear hgo hkd
      have hall : needN b.length ≤ k := by
        unfold needN
        rw [if_pos hb]
        omega
      rw [hd0]
      have HK0 := Lib.hid hk0
      have HDL := Lib.hid hdl
      clear hd0 hdi hdl hk0 hcl
      go_wp2_with fail
      go_ret
      exact ⟨OA, oc, rs, rfl, ho1, Ho2.out, by rw [HD.out.say, List.take_of_length_le (by rw [length_split]; exact hall)], HD.out.sat⟩
end Go.Proofs.Ytndfgijdcanbaaa
