/- tidingslaw06.BloomKeeps: what was added is there, also in the filter that its bytes make; more keys never take one away. -/
import Derived.Test.YtghgmecaebheoaaBloomWakes
namespace Go.Proofs.Ytghgmecaebheoaa
open Go.RowKit
set_option linter.unusedVariables false

theorem i64_and_le (a : Int) (m : Nat) (hm : m < 9223372036854775808) : 0 ≤ bits .and .i64 a (m : Int) ∧ bits .and .i64 a (m : Int) ≤ m := by
  have hb : (BitVec.ofInt 64 (m : Int)).toNat = m := by
    rw [BitVec.ofInt_natCast, BitVec.toNat_ofNat]; exact Nat.mod_eq_of_lt (by omega)
  have e : bits .and .i64 a (m : Int) = IntKind.i64.wrap ((BitVec.ofInt 64 a &&& BitVec.ofInt 64 (m : Int)).toNat : Int) := rfl
  rw [e, BitVec.toNat_and, hb, IntKind.wrap_i64]
  have := Nat.and_le_right (n := (BitVec.ofInt 64 a).toNat) (m := m)
  omega

/-- What a list that is cut to forty leaves. -/
def Cut40 (A : Option Addr) (c : Nat) (w wx w' : World) (ks : Rows_) : Prop := wx = w' ∧ RdL w A ks ∧ ks.length ≤ 40 ∧ ∀ k ∈ ks, k.2.2.length ≤ 140737488355328

set_option maxRecDepth 100000 in
set_option maxHeartbeats 1000000 in
theorem keeps_walk (keys each : Int) (A A' : Option Addr) (c c' : Nat) (ks0 ls0 : Rows_) (w : World) (hk : RdL w A ks0) (hc0 : ks0.length ≤ c) (hl : ∀ k ∈ ks0, k.2.2.length ≤ 140737488355328) (hks : ks0.length ≤ 140737488355328)
    (hk' : RdL w A' ls0) (hc0' : ls0.length ≤ c') (hl' : ∀ k ∈ ls0, k.2.2.length ≤ 140737488355328) (hks' : ls0.length ≤ 140737488355328) :
    Calls Try.prog 5 #[.int .i64 keys, .int .i64 each, .slice A ks0.length c, .slice A' ls0.length c'] w (Asked true w) := by
  have HK := Lib.hid hk
  have HL := Lib.hid hl
  have HK' := Lib.hid hk'
  have HL' := Lib.hid hl'
  clear hk hl hk' hl'
  have hq1 := i64_and_le keys 255 (by omega)
  have hq2 := i64_and_le each 15 (by omega)
  have HE1 : Hid (bits .and .i64 keys ((255 : Nat) : Int) = bits .and .i64 keys 255) := rfl
  obtain ⟨K, hK⟩ : ∃ K, bits .and .i64 keys 255 = K := ⟨_, rfl⟩
  obtain ⟨E, hE⟩ : ∃ E, bits .and .i64 each 15 = E := ⟨_, rfl⟩
  have hK0 : 0 ≤ K ∧ K ≤ 255 := by rw [← hK]; exact hq1
  have hE0 : 0 ≤ E ∧ E ≤ 15 := by rw [← hE]; exact hq2
  clear hq1 hq2 HE1
  obtain ⟨hK1, hK2⟩ := hK0
  obtain ⟨hE1, hE2⟩ := hE0
  obtain ⟨_, h8, h9⟩ := nbytes_le K (1 + E) (by omega)
  have HN : Hid (∀ W, Calls Try.prog 12 #[.int .i64 K, .int .i64 (1 + E)] W (Fresh (nbytes K (1 + E)) W)) := fun W => new_yes K (1 + E) W (by omega)
  generalize nbytes K (1 + E) = n at HN h8 h9
  go_enter Try.func5, Try.ntmps5
  go_wp2_with fail
  refine (HN.out w).mono ?_
  rintro e w1 ⟨g, h, rfl, h1, hg1, hh1, k1⟩
  have F1 := Lib.hid h1
  have K1 := Lib.hid k1
  clear h1 k1 hK hE
  go_wp2_with (go_at_call 10; refine (num_any _ _).mono ?_; rintro e w3 ⟨rfl, rfl⟩)
  refine (wakes_any _).mono ?_
  rintro e w2 ⟨rfl, k2⟩
  have K2 := Lib.hid (K1.out.tr k2)
  have F2 := Lib.hid (F1.out.new k2)
  clear k2 K1 F1
  go_upto_if 40 with fail
  go_cut [2] (fun s wx => ∃ ks : Rows_, s = .slice A ks.length c ∧ Hid (Cut40 A c w w2 wx ks))
  case first =>
    by_cases h40 : 40 < ks0.length
    · have hcap : (40 : Int) ≤ c := by omega
      go_wp2_with fail
      go_meet
      have hl40 : (ks0.take 40).length = 40 := by rw [List.length_take]; omega
      exact ⟨ks0.take 40, by rw [hl40], rfl, HK.out.take 40, by omega, fun k hk => HL.out k (List.mem_of_mem_take hk)⟩
    · go_wp2_with fail
      go_meet
      exact ⟨ks0, rfl, rfl, HK.out, by omega, HL.out⟩
  case rest =>
    obtain ⟨ks, rfl, HC⟩ := hcut
    obtain rfl := HC.out.1
    have hlen := HC.out.2.2.1
    clear hks hc0 HK HL
    go_upto_if 45 with fail
    go_cut [3] (fun s wx => ∃ ls : Rows_, s = .slice A' ls.length c' ∧ Hid (Cut40 A' c' w w2 wx ls))
    case first =>
      by_cases h40 : 40 < ls0.length
      · have hcap : (40 : Int) ≤ c' := by omega
        go_wp2_with fail
        go_meet
        have hl40 : (ls0.take 40).length = 40 := by rw [List.length_take]; omega
        exact ⟨ls0.take 40, by rw [hl40], rfl, HK'.out.take 40, by omega, fun k hk => HL'.out k (List.mem_of_mem_take hk)⟩
      · go_wp2_with fail
        go_meet
        exact ⟨ls0, rfl, rfl, HK'.out, by omega, HL'.out⟩
    case rest =>
      obtain ⟨ls, rfl, HC'⟩ := hcut
      obtain rfl := HC'.out.1
      have hlen' := HC'.out.2.2.1
      clear hks' hc0' HK' HL'
      go_wp2_with fail
      go_loopw [11] (fun i wr => ∃ j : Nat, j ≤ ks.length ∧ i = .int .i64 j ∧ Hid (Filt wr g h n n (addAll (List.replicate n 0) (txt (ks.take j))) ∧ Chg (One h) w2 wr)) (fun i _ => ks.length - (intOf i).toNat)
      case atStart => exact ⟨0, by omega, rfl, F2.out, Chg.refl _ _⟩
      case round =>
        obtain ⟨j, hj, rfl, HR⟩ := hrel
        by_cases hlt : j < ks.length
        · obtain ⟨⟨b, o, rfl, hc⟩, _⟩ := (HC.out.2.1.stay.old K2.out (S := One h) (fun i hi => by cases hi; exact hh1) wr HR.out.2).get hlt
          have HS : Hid (Calls Try.prog 14 #[.pointer (some ⟨g, 0, none⟩), .slice (some ⟨wr.heap.size, 0, none⟩) 1 1] (wr.alloc (.cells #[.slice ks[j].1 ks[j].2.2.length ks[j].2.1] 34))
              (Added g h n n (addAll (List.replicate n 0) (txt (ks.take (j + 1)))) (wr.alloc (.cells #[.slice ks[j].1 ks[j].2.2.length ks[j].2.1] 34)))) := by
            have hq : addAll (List.replicate n 0) (txt (ks.take (j + 1))) = addAll (addAll (List.replicate n 0) (txt (ks.take j))) (txt [ks[j]]) := by
              rw [← addAll_append, List.take_succ_eq_append_getElem hlt, txt, txt, txt, List.map_append]
            rw [hq]
            refine add_at g h n n wr.heap.size 1 1 _ [ks[j]] _ (HR.out.1.new ((Chg.refl No wr).alloc _)) (by omega) (At.new _ _ _) rfl ?_ ?_ (by omega)
            · intro k hk
              have ek : k = ks[j] := by simpa using hk
              subst ek
              intro W' k'
              exact (HC.out.2.1.stay.old K2.out (S := One h) (fun i hi => by cases hi; exact hh1) W' ((HR.out.2.alloc _).tr k')).2 _ (List.getElem_mem hlt)
            · intro k hk
              have ek : k = ks[j] := by simpa using hk
              subst ek
              exact HC.out.2.2.2 _ (List.getElem_mem hlt)
          have hj40 : j < 40 := by omega
          generalize ks[j] = x at *
          go_wp2_with fail
          refine HS.out.mono ?_
          rintro e w4 ⟨rfl, f4, k4⟩
          have F4 := Lib.hid f4
          have K4 := Lib.hid ((HR.out.2.alloc (.cells #[.slice x.1 x.2.2.length x.2.1] 34)).tr k4)
          clear f4 k4 hc
          go_wp2_with fail
          go_roundw
          case rel => exact ⟨j + 1, by omega, by go_num, F4.out, K4.out⟩
          case measure => simp [intOf]; omega
        · have ht : ks.take j = ks := List.take_of_length_le (by omega)
          rw [ht] at HR
          clear ht
          have KA := Lib.hid (K2.out.own HR.out.2 (fun i hi => by cases hi; exact hh1))
          have FA := Lib.hid HR.out.1
          clear HR
          go_wp2_with fail
          refine (bytes_any g h n n _ _ FA.out (by omega)).mono ?_
          intro e w5 h5
          obtain ⟨A5, c5, rfl, R5, k5⟩ := told_rd h5
          have hB := length_addAll (txt ks) (List.replicate n 0)
          rw [List.length_replicate] at hB
          have HB := Lib.hid hB
          clear hB
          have F5 := Lib.hid (FA.out.new k5)
          have K5 := Lib.hid (KA.out.tr k5)
          have H5 := Lib.hid R5
          clear h5 R5 k5
          go_wp2_with fail
          refine (from_yes A5 c5 _ w5 H5.out (by have := HB.out; omega) (by have := HB.out; omega)).mono ?_
          rintro e w6 ⟨g2, h2, c2, rfl, f6, hg6, hh6, k6⟩
          have F6 := Lib.hid (F5.out.new k6)
          have G6 := Lib.hid f6
          have K6 := Lib.hid (K5.out.tr k6)
          have D6 : Hid (¬ One h g2 ∧ ¬ One h h2) := ⟨by have := F5.out.lt; unfold One; omega, by have := F5.out.lt; unfold One; omega⟩
          clear f6 k6
          go_wp2_with (go_at_call 10; refine (num_any _ _).mono ?_; rintro e w3 ⟨rfl, rfl⟩)
          refine (add_any g h n n c' _ A' ls w6 F6.out (by omega) (HC'.out.2.1.stay.old K6.out (fun i hi => by cases hi; exact hh1)) HC'.out.2.2.2 (by omega)).mono ?_
          rintro e w7 ⟨rfl, f7, k7⟩
          have F7 := Lib.hid f7
          have G7 := Lib.hid (G6.out.chg k7 D6.out.1 D6.out.2)
          have K7 := Lib.hid (K6.out.own k7 (fun i hi => by cases hi; exact hh1))
          clear f7 k7
          have hall : addAll (addAll (List.replicate n 0) (txt ks)) (txt ls) = addAll (List.replicate n 0) (txt ks ++ txt ls) := (addAll_append _ _ _).symm
          have HA := Lib.hid hall
          clear hall
          go_wp2_with fail
          go_loopw [14] (fun i wr => ∃ j : Nat, j ≤ ks.length ∧ i = .int .i64 j ∧ Hid (Chg No w7 wr)) (fun i _ => ks.length - (intOf i).toNat)
          case atStart => exact ⟨0, by omega, rfl, Chg.refl _ _⟩
          case round =>
            obtain ⟨j, hj, rfl, HR⟩ := hrel
            by_cases hlt : j < ks.length
            · have hr := HC.out.2.1.new (K7.out.tr HR.out)
              obtain ⟨⟨b, o, rfl, hc⟩, _⟩ := hr.get hlt
              have HX := Lib.hid (HC.out.2.2.2 ks[j] (List.getElem_mem hlt))
              have HM : Hid (ks[j].2.2 ∈ txt ks) := List.mem_map.2 ⟨ks[j], List.getElem_mem hlt, rfl⟩
              have HD := Lib.hid (hr.2 ks[j] (List.getElem_mem hlt)).stay
              have hj40 : j < 40 := by omega
              generalize ks[j] = x at *
              go_wp2_with fail
              refine (has_yes g h n n _ _ x.2.2 _ _ (F7.out.new HR.out) (by omega) HD.out.now HX.out (by rw [HA.out]; exact hasKey_addAll _ _ _ (List.mem_append_left _ HM.out) (by rw [List.length_replicate]; omega))).mono ?_
              rintro e w8 ⟨rfl, k8⟩
              have hc8 := k8.cell hc id
              have K8 := Lib.hid k8
              clear k8 hc
              go_wp2_with fail
              refine (has_yes g2 h2 _ c2 _ _ x.2.2 _ _ ((G7.out.new HR.out).new K8.out) (by rw [HB.out]; omega) (HD.out w8 K8.out) HX.out (hasKey_addAll _ _ _ HM.out (by rw [List.length_replicate]; omega))).mono ?_
              rintro e w9 ⟨rfl, k9⟩
              have K9 := Lib.hid k9
              clear k9 hc8
              go_wp2_with fail
              go_roundw
              case rel => exact ⟨j + 1, by omega, by go_num, (HR.out.tr K8.out).tr K9.out⟩
              case measure => simp [intOf]; omega
            · have KB := Lib.hid (K7.out.tr HR.out)
              have FB := Lib.hid (F7.out.new HR.out)
              obtain ⟨wb, rfl⟩ : ∃ wb : World, wb = wr := ⟨_, rfl⟩
              clear HR
              go_wp2_with fail
              go_loopw [15] (fun i wr => ∃ j : Nat, j ≤ ls.length ∧ i = .int .i64 j ∧ Hid (Chg No wb wr)) (fun i _ => ls.length - (intOf i).toNat)
              case atStart => exact ⟨0, by omega, rfl, Chg.refl _ _⟩
              case round =>
                obtain ⟨j, hj, rfl, HR⟩ := hrel
                by_cases hlt : j < ls.length
                · have hr := HC'.out.2.1.new (KB.out.tr HR.out)
                  obtain ⟨⟨b, o, rfl, hc⟩, _⟩ := hr.get hlt
                  have HX := Lib.hid (HC'.out.2.2.2 ls[j] (List.getElem_mem hlt))
                  have HM : Hid (ls[j].2.2 ∈ txt ls) := List.mem_map.2 ⟨ls[j], List.getElem_mem hlt, rfl⟩
                  have HD := Lib.hid (hr.2 ls[j] (List.getElem_mem hlt))
                  have hj40 : j < 40 := by omega
                  generalize ls[j] = x at *
                  go_wp2_with fail
                  refine (has_yes g h n n _ _ x.2.2 _ _ (FB.out.new HR.out) (by omega) HD.out HX.out (by rw [HA.out]; exact hasKey_addAll _ _ _ (List.mem_append_right _ HM.out) (by rw [List.length_replicate]; omega))).mono ?_
                  rintro e w8 ⟨rfl, k8⟩
                  have K8 := Lib.hid k8
                  clear k8 hc
                  go_wp2_with fail
                  go_roundw
                  case rel => exact ⟨j + 1, by omega, by go_num, HR.out.tr K8.out⟩
                  case measure => simp [intOf]; omega
                · go_wp2_with fail
                  go_ret
                  exact ⟨rfl, KB.out.tr HR.out⟩

theorem keeps_walk_ (keys each : Int) (A : Option Addr) (c : Nat) (ks : Rows_) (A' : Option Addr) (c' : Nat) (ls : Rows_) (w : World) (h1 : -9223372036854775808 ≤ keys ∧ keys ≤ 9223372036854775807) (h2 : -9223372036854775808 ≤ each ∧ each ≤ 9223372036854775807)
    (h : ks.length ≤ c ∧ c ≤ maxLen ∧ RdL w A ks ∧ ks.length ≤ 5864062014634 ∧ (∀ k ∈ ks, k.2.2.length ≤ 140737488351232 ∧ k.2.2.length ≤ k.2.1 ∧ k.2.1 ≤ maxLen))
    (h' : ls.length ≤ c' ∧ c' ≤ maxLen ∧ RdL w A' ls ∧ ls.length ≤ 5864062014634 ∧ (∀ k ∈ ls, k.2.2.length ≤ 140737488351232 ∧ k.2.2.length ≤ k.2.1 ∧ k.2.1 ≤ maxLen)) :
    Calls Try.prog 5 #[.int .i64 keys, .int .i64 each, .slice A ks.length c, .slice A' ls.length c'] w (Asked true w) :=
  keeps_walk keys each A A' c c' ks ls w h.2.2.1 h.1 (fun k hk => by have := (h.2.2.2.2 k hk).1; omega) (by have := h.2.2.2.1; omega) h'.2.2.1 h'.1 (fun k hk => by have := (h'.2.2.2.2 k hk).1; omega) (by have := h'.2.2.2.1; omega)
end Go.Proofs.Ytghgmecaebheoaa
