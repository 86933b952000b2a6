/- tidingslaw06.BloomPlays where there is such a filter. -/
import Derived.Test.YtghgmecaebheoaaBloomPlays
import Derived.Deep.CutBlock
namespace Go.Proofs.Ytghgmecaebheoaa
open Go.RowKit
set_option linter.unusedVariables false

theorem told_own {B : List UInt8} {w w' : World} {e : Ending} (h : Told B w e w') : ∃ x cap, e = .returned (.slice (some ⟨x, 0, none⟩) B.length cap) ∧ w'.ownsRow w.heap.size 5 1 (.slice (some ⟨x, 0, none⟩) B.length cap) B.length (B.map bv) ∧ Chg No w w' := by
  obtain ⟨x, cap, cur, rfl, h1, h2, h3, h4, h5, h6, h7⟩ := h
  refine ⟨x, cap, rfl, ⟨by simp, .inr ⟨x, cap, cur, rfl, h1, h2, h4, h5, by simpa using h3, ?_⟩⟩, h7⟩
  refine List.ext_getElem? fun j => ?_
  rw [Nat.mul_one, List.getElem?_take]
  by_cases hj : j < B.length
  · rw [if_pos hj, Array.getElem?_toList, h6 j hj]
    simp [hj]
  · rw [if_neg hj, List.getElem?_eq_none (by simpa using Nat.le_of_not_lt hj)]
structure Sizes (k e : Int) (N : Nat) (w2 wx : World) : Prop where
  num : nbytes k e = N
  ok : 0 ≤ k ∧ k ≤ 65536 ∧ 1 ≤ e ∧ e ≤ 32
  same : w2 = wx
set_option maxRecDepth 100000 in
set_option maxHeartbeats 16000000 in
theorem plays_yes (keys each : Int) (A A' : Option Addr) (c c' : Nat) (ks0 ls0 : Rows_) (w : World) (hk : RdL w A ks0) (hc0 : ks0.length ≤ c) (hl : ∀ k ∈ ks0, k.2.2.length ≤ 140737488355328) (hks : ks0.length ≤ 140737488355328)
    (hk' : RdL w A' ls0) (hc0' : ls0.length ≤ c') (hl' : ∀ k ∈ ls0, k.2.2.length ≤ 140737488355328) (hks' : ls0.length ≤ 140737488355328) (h : 0 ≤ keys ∧ keys ≤ 65536 ∧ 1 ≤ each ∧ each ≤ 32) :
    Calls Try.prog 3 #[.int .i64 keys, .int .i64 each, .slice A ks0.length c, .slice A' ls0.length c'] w (Asked true w) := by
  have HK := Lib.hid hk
  have HL := Lib.hid hl
  have HK' := Lib.hid hk'
  have HL' := Lib.hid hl'
  have HH := Lib.hid h
  have hq1 := i64_and_le keys 63 (by omega)
  have hq2 := i64_and_le each 7 (by omega)
  obtain ⟨K, hK⟩ : ∃ K, bits .and .i64 keys 63 = K := ⟨_, rfl⟩
  obtain ⟨E, hE⟩ : ∃ E, bits .and .i64 each 7 = E := ⟨_, rfl⟩
  have hK0 : 0 ≤ K ∧ K ≤ 63 := by rw [← hK]; exact hq1
  have hE0 : 0 ≤ E ∧ E ≤ 7 := by rw [← hE]; exact hq2
  clear hq1 hq2
  obtain ⟨hK1, hK2⟩ := hK0
  obtain ⟨hE1, hE2⟩ := hE0
  have HKE : Hid (0 ≤ K ∧ K ≤ 65536 ∧ 1 ≤ 1 + E ∧ 1 + E ≤ 32) := Lib.hid (by omega)
  clear hk hl hk' hl' h
  obtain ⟨_, h8, h9⟩ := nbytes_le keys each HH.out
  have HS1 : Hid (∀ W, Calls Try.prog 8 #[.int .i64 keys, .int .i64 each] W fun x w' => x = .returned (.tuple #[.int .i64 (8 * (nbytes keys each : Int)), .int .i64 0]) ∧ W = w') := fun W => size_yes keys each W HH.out
  have HS2 : Hid (∀ W, Calls Try.prog 9 #[.int .i64 keys, .int .i64 each] W fun x w' => x = .returned (.tuple #[.int .i64 (8 * (nbytes keys each : Int)), .int .i64 0]) ∧ W = w') := fun W => refSize_yes keys each W HH.out
  have HS3 : Hid (∀ W, Calls Try.prog 9 #[.int .i64 K, .int .i64 (1 + E)] W fun x w' => x = .returned (.tuple #[.int .i64 (8 * (nbytes K (1 + E) : Int)), .int .i64 0]) ∧ W = w') := fun W => refSize_yes K (1 + E) W HKE.out
  obtain ⟨N, hN⟩ : ∃ N, nbytes keys each = N := ⟨_, rfl⟩
  obtain ⟨N2, hN2⟩ : ∃ N, nbytes K (1 + E) = N := ⟨_, rfl⟩
  rw [hN] at HS1 HS2 h8 h9
  rw [hN2] at HS3
  have HN := Lib.hid hN
  have HN2 := Lib.hid hN2
  clear hN hN2
  go_enter Try.func3, Try.ntmps3
  go_wp2_with fail
  refine (HS1.out w).mono ?_
  rintro e w' ⟨rfl, rfl⟩
  go_wp2_with fail
  refine (HS2.out w).mono ?_
  rintro e w' ⟨rfl, rfl⟩
  go_wp2_with (go_at_call 10; refine (num_any _ _).mono ?_; rintro e w3 ⟨rfl, rfl⟩)
  refine (wakes_any w).mono ?_
  rintro e w2 ⟨rfl, k2⟩
  have K2 := Lib.hid k2
  clear k2
  go_upto_if 47 with fail
  go_cut [0, 1, 11, 12] (fun a b n g wx => ∃ (k e : Int) (N : Nat), a = .int .i64 k ∧ b = .int .i64 e ∧ n = .int .i64 (8 * (N : Int)) ∧ g = .int .i64 0 ∧ Hid (Sizes k e N w2 wx))
  case first =>
    by_cases hbig : 8192 < 8 * (N : Int)
    · go_wp2_with fail
      refine (HS3.out w2).mono ?_
      rintro e w' ⟨rfl, rfl⟩
      go_wp2_with fail
      go_meet
      exact ⟨K, 1 + E, N2, rfl, rfl, rfl, rfl, HN2.out, HKE.out, rfl⟩
    · go_wp2_with fail
      go_meet
      exact ⟨keys, each, N, rfl, rfl, rfl, rfl, HN.out, HH.out, rfl⟩
  case rest =>
    obtain ⟨k0, e0, n, rfl, rfl, rfl, rfl, HZ⟩ := hcut
    obtain rfl := HZ.out.same
    clear HS1 HS2 HS3 hK hE hK1 hK2 hE1 hE2 h8 h9
    obtain ⟨_, h8, h9⟩ := nbytes_le k0 e0 HZ.out.ok
    rw [HZ.out.num] at h8 h9
    have HNew : Hid (∀ W, Calls Try.prog 12 #[.int .i64 k0, .int .i64 e0] W (Fresh n W)) := fun W => by
      have := new_yes k0 e0 W HZ.out.ok
      rwa [HZ.out.num] at this
    go_wp2_with fail
    refine (HNew.out _).mono ?_
    rintro e w3 ⟨g, h, rfl, h1, hg1, hh1, k3⟩
    have F3 := Lib.hid h1
    have K3 := Lib.hid (K2.out.tr k3)
    have G3 : Hid (w2.heap.size ≤ g ∧ w2.heap.size ≤ h) := ⟨hg1, hh1⟩
    clear h1 k3 hg1 hh1
    have hmk := fun W => run_make_u8 n (by omega) W
    have hq : 8 * (n : Int) / 8 = (n : Int) := by omega
    go_wp2_with fail
    refine (num_any _ _).mono ?_
    rintro e w' ⟨rfl, rfl⟩
    have R0 := Lib.hid (rfilt_fresh w3 n)
    have K0 := Lib.hid (((Chg.refl No w3).alloc (.cells (madeCells #[.int .u8 0] n) 5)).alloc (.cells #[.slice (some ⟨w3.heap.size, 0, none⟩) n n] 36))
    have S0 : Hid (w3.heap.size + 2 = ((w3.alloc (.cells (madeCells #[.int .u8 0] n) 5)).alloc (.cells #[.slice (some ⟨w3.heap.size, 0, none⟩) n n] 36)).heap.size) := Lib.hid (by simp)
    go_upto_if 85 with fail
    obtain ⟨w4, hw4⟩ : ∃ w4 : World, w4 = (w3.alloc (.cells (madeCells #[.int .u8 0] n) 5)).alloc (.cells #[.slice (some ⟨w3.heap.size, 0, none⟩) n n] 36) := ⟨_, rfl⟩
    rw [← hw4] at R0 K0 S0 ⊢
    clear hw4 hmk hq
    have F4 := Lib.hid (F3.out.new K0.out)
    have K4 := Lib.hid (K3.out.tr K0.out)
    go_cut [2] (fun s wx => ∃ ks : Rows_, s = .slice A ks.length c ∧ Hid (Cut40 A c w w4 wx ks))
    case first =>
      by_cases h40 : 40 < ks0.length
      · have hcap : (40 : Int) ≤ c := by omega
        go_wp2_with fail
        go_meet
        have hl40 : (ks0.take 40).length = 40 := by rw [List.length_take]; omega
        exact ⟨ks0.take 40, by rw [hl40], rfl, HK.out.take 40, by omega, fun k hk => HL.out k (List.mem_of_mem_take hk)⟩
      · go_wp2_with fail
        go_meet
        exact ⟨ks0, rfl, rfl, HK.out, by omega, HL.out⟩
    case rest =>
      obtain ⟨ks, rfl, HC⟩ := hcut
      obtain rfl := HC.out.1
      have hlen := HC.out.2.2.1
      clear hks hc0 HK HL
      have HW := Lib.hid ((HC.out.2.1).new K4.out)
      go_wp2_with fail
      refine (twins_any A c ks _ HW.out HC.out.2.2.2 (by omega)).mono ?_
      rintro e w5 ⟨v, rs, rfl, hrs, hown, k5⟩
      obtain ⟨Ar, cr, rfl, hr1, hr2, hr3, hr4⟩ := hown.rdl
      have hrl : rs.length = ks.length := by have := congrArg List.length hrs; simpa [txt] using this
      rw [hrl]
      have HRs := Lib.hid hrs
      have HOwn := Lib.hid hown
      have HRl := Lib.hid hrl
      have F5 := Lib.hid (F4.out.new k5)
      have R5 := Lib.hid (R0.out.new k5)
      have K5 := Lib.hid (K4.out.tr k5)
      clear hrs hown hr1 hr2 hr3 hr4 k5 hrl
      have HAdd : Hid (Calls Try.prog 14 #[.pointer (some ⟨g, 0, none⟩), .slice Ar ks.length cr] w5 (Added g h n n (addAll (List.replicate n 0) (txt ks)) w5)) := by
        have := add_any g h n n cr (List.replicate n 0) Ar rs w5 F5.out (by omega) (fun W' kk => ?_) ?_ (by have := HRl.out; omega)
        · rw [HRs.out] at this
          rw [← HRl.out]
          exact this
        · have hro := own_chg HOwn.out.row kk (fun b hb e => by have e' : b = h := e; have := (HOwn.out.row.lt b hb).1; have := F4.out.lt.2; omega)
          exact ⟨RdV.of_own hro, fun x hx => RdV.of_own (own_chg (HOwn.out.each.own x hx) kk (fun b hb e => by have e' : b = h := e; have := ((HOwn.out.each.own x hx).lt b hb).1; have := F4.out.lt.2; omega))⟩
        · intro x hx
          have hm : x.2.2 ∈ txt rs := List.mem_map_of_mem (f := fun k => k.2.2) hx
          rw [HRs.out] at hm
          obtain ⟨y, hy, e⟩ := List.mem_map.1 hm
          rw [← e]
          exact HC.out.2.2.2 y hy
      go_wp2_with fail
      refine HAdd.out.mono ?_
      rintro e w6 ⟨rfl, f6, k6⟩
      have F6 := Lib.hid f6
      have K6 := Lib.hid k6
      clear f6 k6
      have hw3 : h < w3.heap.size := F3.out.lt.2
      have R6 := Lib.hid (R5.out.chg K6.out (fun e => by have e' : w3.heap.size + 1 = h := e; omega) (fun e => by have e' : w3.heap.size = h := e; omega))
      have KW := Lib.hid (K5.out.own K6.out (fun i hi => by have e' : i = h := hi; have := G3.out.2; have := K2.out.size; omega))
      have LW : Hid (w.heap.size ≤ w3.heap.size) := Lib.hid K3.out.size
      obtain ⟨r, hr⟩ : ∃ r, r = w3.heap.size := ⟨_, rfl⟩
      rw [← hr] at R6 LW hw3 ⊢
      have HR3 := Lib.hid hr
      clear hr
      go_wp2_with fail
      go_loopw [17] (fun i wr => ∃ j : Nat, j ≤ ks.length ∧ i = .int .i64 j ∧ Hid (RFilt wr (r + 1) r n n (addAll (List.replicate n 0) (txt (ks.take j))) ∧ Chg (One r) w6 wr)) (fun i _ => ks.length - (intOf i).toNat)
      case atStart => exact ⟨0, by omega, rfl, R6.out, Chg.refl _ _⟩
      case round =>
        obtain ⟨j, hj, rfl, HR⟩ := hrel
        by_cases hlt : j < ks.length
        · obtain ⟨⟨b, o, rfl, hc⟩, hx⟩ := (HC.out.2.1.stay.old KW.out (S := One r) (fun i hi => by cases hi; exact LW.out) wr HR.out.2).get hlt
          have HX := Lib.hid hx
          have HLx := Lib.hid (HC.out.2.2.2 _ (List.getElem_mem hlt))
          have hq : addAll (List.replicate n 0) (txt (ks.take (j + 1))) = addKey (addAll (List.replicate n 0) (txt (ks.take j))) ks[j].2.2 := by
            rw [List.take_succ_eq_append_getElem hlt, txt, List.map_append]
            show List.foldl addKey _ _ = _
            rw [List.foldl_append]
            rfl
          have HQ := Lib.hid hq
          clear hx hq
          have hj40 : j < 40 := by omega
          have hji : (j : Int) < ks.length := by omega
          generalize ks[j] = x at *
          go_wp2_with fail
          refine (refAdd_any (r + 1) r n n x.2.1 x.1 _ x.2.2 wr HR.out.1 (by omega) HX.out HLx.out).mono ?_
          rintro e w7 ⟨rfl, f7, k7⟩
          have F7 := Lib.hid f7
          have K7 := Lib.hid (HR.out.2.tr k7)
          clear f7 k7
          go_wp2_with fail
          go_roundw
          case rel => exact ⟨j + 1, by omega, by go_num, by rw [HQ.out]; exact F7.out, K7.out⟩
          case measure => simp [intOf]; omega
        · have ht : ks.take j = ks := List.take_of_length_le (by omega)
          rw [ht] at HR
          clear ht
          obtain ⟨w7, rfl⟩ : ∃ w7 : World, w7 = wr := ⟨_, rfl⟩
          have R7 := Lib.hid HR.out.1
          have F7 := Lib.hid (F6.out.chg HR.out.2 (fun e => by have e' : g = r := e; have := F3.out.lt.1; have := HR3.out; omega) (fun e => by have e' : h = r := e; omega))
          have K7 := Lib.hid (KW.out.own HR.out.2 (fun i hi => by cases hi; exact LW.out))
          have HBl := Lib.hid (length_addAll (txt ks) (List.replicate n 0))
          have HTx : Hid (txt rs = txt ks) := Lib.hid HRs.out
          have HOw7 : Hid (OwnLL w4.heap.size w7 (.slice Ar rs.length cr) rs) := Lib.hid ⟨own_chg (own_chg HOwn.out.row K6.out (fun b hb e => by have e' : b = h := e; have := (HOwn.out.row.lt b hb).1; have := F4.out.lt.2; omega)) HR.out.2 (fun b hb e => by have e' : b = r := e; have := (HOwn.out.row.lt b hb).1; have := HR3.out; have := S0.out; omega),
            ⟨fun x hx => own_chg (own_chg (HOwn.out.each.own x hx) K6.out (fun b hb e => by have e' : b = h := e; have := ((HOwn.out.each.own x hx).lt b hb).1; have := F4.out.lt.2; omega)) HR.out.2 (fun b hb e => by have e' : b = r := e; have := ((HOwn.out.each.own x hx).lt b hb).1; have := HR3.out; have := S0.out; omega), HOwn.out.each.apart⟩⟩
          clear HR R6 F6 HAdd
          generalize hB : addAll (List.replicate n 0) (txt ks) = B at *
          have HA1 : Hid (∀ (x : Option Addr × Nat × List UInt8), x ∈ ls0 → ∀ W, Chg No w7 W → Calls Try.prog 16 #[.pointer (some ⟨g, 0, none⟩), .slice x.1 x.2.2.length x.2.1] W (Asked (hasKey B x.2.2) W)) := fun x hx W kk =>
            has_any g h n n x.2.1 B x.2.2 x.1 W (F7.out.new kk) (by omega) (HK'.out.2 x hx |>.new (K7.out.tr kk)) (HL'.out x hx)
          have HA2 : Hid (∀ (x : Option Addr × Nat × List UInt8), x ∈ ls0 → ∀ W, Chg No w7 W → Calls Try.prog 17 #[.pointer (some ⟨r + 1, 0, none⟩), .slice x.1 x.2.2.length x.2.1] W (Asked (hasKey B x.2.2) W)) := fun x hx W kk =>
            refHas_any (r + 1) n n x.2.1 (some ⟨r, 0, none⟩) x.1 B x.2.2 W (R7.out.new kk).head R7.out.len (R7.out.new kk).rd (by have := R7.out.len; omega) (HK'.out.2 x hx |>.new (K7.out.tr kk)) (HL'.out x hx)
          go_upto_block 2 with fail
          go_cut [18] (fun s wx => Hid (Chg No w7 wx))
          case first =>
            go_wp2_with fail
            go_loopw [18] (fun i wr => ∃ j : Nat, j ≤ ls0.length ∧ i = .int .i64 j ∧ Hid (Chg No w7 wr)) (fun i _ => ls0.length - (intOf i).toNat)
            case atStart => exact ⟨0, by omega, rfl, Chg.refl _ _⟩
            case round =>
              obtain ⟨j, hj, rfl, HR⟩ := hrel
              by_cases hlt : j < ls0.length
              · by_cases hj40 : j < 40
                · obtain ⟨⟨b, o, rfl, hc⟩, _⟩ := (HK'.out.new (K7.out.tr HR.out)).get hlt
                  have hC1 := Lib.hid (HA1.out _ (List.getElem_mem hlt))
                  have hC2 := Lib.hid (HA2.out _ (List.getElem_mem hlt))
                  have hji : (j : Int) < ls0.length := by omega
                  have hji4 : (j : Int) < 40 := by omega
                  generalize ls0[j] = x at *
                  generalize hasKey B x.2.2 = q at hC1 hC2
                  have hqq : (q != q) = false := by cases q <;> rfl
                  have HB := Lib.hid hc
                  go_wp2_with fail
                  go_region_held3 (fun w' => w'.cell? ⟨b, o + j, none⟩ = some (.slice x.1 x.2.2.length x.2.1)) (first | exact q9 | exact q8 | go_keep)
                    (first
                      | (go_at_call 16; refine (hC1.out wr.drew HR.out.drew).mono ?_; rintro e w8 ⟨rfl, k8⟩; have q8 := k8.cell (p := ⟨b, o + j, none⟩) HB.out id; have C8 : Hid (Chg No w7 w8) := Lib.hid (HR.out.drew.tr k8))
                      | (go_at_call 17; refine (hC2.out w8 C8.out).mono ?_; rintro e w9 ⟨rfl, k9⟩; have q9 := k9.cell (p := ⟨b, o + j, none⟩) q8 id; have C9 : Hid (Chg No w7 w9) := Lib.hid (C8.out.tr k9)))
                  go_wp2_with fail
                  go_roundw
                  case rel => exact ⟨j + 1, by omega, by go_num, C9.out⟩
                  case measure => simp [intOf]; omega
                · have hji4 : ¬ ((j : Int) < 40) := by omega
                  have hji : (j : Int) < ls0.length := by omega
                  go_wp2_with fail
                  go_meet
                  exact HR.out
              · have hji : ¬ ((j : Int) < ls0.length) := by omega
                go_wp2_with fail
                go_meet
                exact HR.out
          case rest =>
            have C8 := Lib.hid hcut.out
            clear hcut HA1 HA2
            have F8 := Lib.hid (F7.out.new C8.out)
            have R8 := Lib.hid (R7.out.new C8.out)
            have K8 := Lib.hid (K7.out.tr C8.out)
            have O8 := Lib.hid (HOw7.out.new C8.out)
            have BL : Hid (n = B.length) := Lib.hid F7.out.len
            clear C8 F7 R7 K7 HOw7 HOwn R5 F5 F4 R0
            go_wp2_with fail
            refine (bytes_any g h n n B wc F8.out (by omega)).mono ?_
            intro e w9 h9
            obtain ⟨xb, cap, rfl, own9, k9⟩ := told_own h9
            have N9 := Lib.hid own9
            have F9 := Lib.hid (F8.out.new k9)
            have R9 := Lib.hid (R8.out.new k9)
            have K9 := Lib.hid (K8.out.tr k9)
            have O9 := Lib.hid (O8.out.new k9)
            have L9 : Hid (h < wc.heap.size ∧ g < wc.heap.size ∧ r + 1 < wc.heap.size ∧ wc.heap.size ≤ w9.heap.size) := Lib.hid ⟨F8.out.lt.2, F8.out.lt.1, R8.out.lt.1, k9.size⟩
            have A9 := Lib.hid ((Chg.refl No w9).alloc (.cells #[.slice none 0 0, .slice none 0 0, .slice none 0 0, .slice none 0 0, .slice none 0 0, .slice none 0 0] 46))
            have HBk := Lib.hid (Bk.fresh (b1 := wc.heap.size) (w := w9) L9.out.2.2.2)
            have HBb : Hid (Calls Try.prog 19 #[.pointer (some ⟨w9.heap.size, 0, none⟩), .slice (some ⟨xb, 0, none⟩) B.length cap] (w9.alloc (.cells #[.slice none 0 0, .slice none 0 0, .slice none 0 0, .slice none 0 0, .slice none 0 0, .slice none 0 0] 46))
                (Booked wc.heap.size w9.heap.size w9.heap.size ([] ++ [(some ⟨xb, 0, none⟩, cap, B)]) (w9.alloc (.cells #[.slice none 0 0, .slice none 0 0, .slice none 0 0, .slice none 0 0, .slice none 0 0, .slice none 0 0] 46)))) :=
              Lib.hid (book_bytes wc.heap.size w9.heap.size w9.heap.size [] (some ⟨xb, 0, none⟩, cap, B) _ HBk.out (own_chg N9.out A9.out (fun _ _ => id)) (by simp) (by have := BL.out; show B.length ≤ _; omega) (by simp))
            clear h9 own9 k9
            go_wp2_with fail
            refine HBb.out.mono ?_
            rintro e w10 ⟨rfl, hbk, k10⟩
            have B10 := Lib.hid hbk
            have C10 : Hid (Chg (From w9.heap.size) w9 w10) := Lib.hid ((A9.out.no).tr k10)
            have F10 := Lib.hid (F9.out.chg C10.out (fun e => by have e' : w9.heap.size ≤ g := e; have := L9.out; omega) (fun e => by have e' : w9.heap.size ≤ h := e; have := L9.out; omega))
            have R10 := Lib.hid (R9.out.chg C10.out (fun e => by have e' : w9.heap.size ≤ r + 1 := e; have := L9.out; omega) (fun e => by have e' : w9.heap.size ≤ r := e; have := L9.out; omega))
            have O10 := Lib.hid (O9.out.old C10.out (Nat.le_refl _))
            have K10 := Lib.hid (K9.out.own C10.out (fun i hi => by have e' : w9.heap.size ≤ i := hi; have := K9.out.size; omega))
            clear hbk k10
            have D10 : Hid (Rd w10 (some ⟨xb, 0, none⟩) B) := Lib.hid (B10.out.own.rd (x := (some ⟨xb, 0, none⟩, cap, B)) (by simp))
            have hr10 := R10.out.head
            have S1 : Hid (∀ W, W = w10 ∨ W = w10.drew → Calls Try.prog 20 #[.slice (some ⟨xb, 0, none⟩) B.length cap, .slice (some ⟨r, 0, none⟩) n n] W fun e w' => e = .returned (.bool true) ∧ W = w') := Lib.hid fun W hW => by
              have h1 : Rd W (some ⟨xb, 0, none⟩) B := by rcases hW with rfl | rfl <;> exact D10.out
              have h2 : Rd W (some ⟨r, 0, none⟩) B := by rcases hW with rfl | rfl <;> exact R10.out.rd
              have := same_any (some ⟨xb, 0, none⟩) (some ⟨r, 0, none⟩) cap n B B W h1 h2
              rw [BL.out]
              rw [BL.out] at this
              exact this.mono fun e w' ⟨he, hw⟩ => ⟨by rw [he, beq_self_eq_true], hw⟩
            have S2 : Hid (∀ W, Chg No w10 W → Calls Try.prog 21 #[.slice Ar ks.length cr, .slice A ks.length c] W fun e w' => e = .returned (.bool true) ∧ Chg No W w') := Lib.hid fun W kk => by
              obtain ⟨A', c', e1, hr, _⟩ := (O10.out.new kk).rdl
              injection e1 with e1 _ e2
              subst e1; subst e2
              have := lists_same Ar A cr c rs ks W hr (HC.out.2.1.new (K10.out.tr kk)) HTx.out (by have := HRl.out; omega)
              rw [HRl.out] at this
              exact this
            have X10 : Hid (∀ i, Ent ([] ++ [((some ⟨xb, 0, none⟩ : Option Addr), cap, B)]) i → wc.heap.size ≤ i) := Lib.hid fun i ⟨y, hy, e⟩ => by
              simp at hy
              subst hy
              exact (N9.out.lt i e).1
            have S3 : Hid (∀ W, Chg No w10 W → Calls Try.prog 22 #[.pointer (some ⟨w9.heap.size, 0, none⟩)] W (Closed ([] ++ [((some ⟨xb, 0, none⟩ : Option Addr), cap, B)]) W)) := Lib.hid fun W kk =>
              book_close _ _ _ _ W (B10.out.new kk) (by simp) (fun y hy => by simp at hy; subst hy; have := BL.out; show B.length ≤ _; omega)
            have S4 : Hid (∀ W, Filt W g h n n B → Calls Try.prog 18 #[.pointer (some ⟨g, 0, none⟩)] W (Told B W)) := Lib.hid fun W hF => bytes_any g h n n B W hF (by omega)
            have S5 : Hid (∀ W A c, Rd W A B → RFilt W (r + 1) r n n B → Calls Try.prog 20 #[.slice A B.length c, .slice (some ⟨r, 0, none⟩) n n] W fun e w' => e = .returned (.bool true) ∧ W = w') := Lib.hid fun W A c h1 h2 => by
              have := same_any A (some ⟨r, 0, none⟩) c n B B W h1 h2.rd
              rw [BL.out]
              rw [BL.out] at this
              exact this.mono fun e w' ⟨he, hw⟩ => ⟨by rw [he, beq_self_eq_true], hw⟩
            go_wp2_with fail
            go_region_held3 (fun w' => w'.cell? ⟨r + 1, 0, none⟩ = some (.slice (some ⟨r, 0, none⟩) n n)) (first | exact q13 | exact q12 | exact q11 | go_keep)
              (first
                | (go_at_call 21; refine (S2.out w10.drew ((Chg.refl No w10).drew)).mono ?_; rintro e w11 ⟨rfl, k11⟩; have q11 := k11.cell (p := ⟨r + 1, 0, none⟩) hr10 id; have C11 : Hid (Chg No w10 w11) := Lib.hid (((Chg.refl No w10).drew).tr k11))
                | (go_at_call 22; refine (S3.out w11 C11.out).mono ?_; rintro e w12 ⟨rfl, k12⟩; have K12 := Lib.hid k12; have q12 := k12.cell (p := ⟨r + 1, 0, none⟩) q11 (fun e => by have e2 : wc.heap.size ≤ r + 1 := X10.out _ e; have := L9.out; omega);
                                     have F12 := Lib.hid ((F10.out.new C11.out).chg K12.out (fun e => by have e2 : wc.heap.size ≤ g := X10.out _ e; have := L9.out; omega) (fun e => by have e2 : wc.heap.size ≤ h := X10.out _ e; have := L9.out; omega)); have R12 := Lib.hid ((R10.out.new C11.out).chg K12.out (fun e => by have e2 : wc.heap.size ≤ r + 1 := X10.out _ e; have := L9.out; omega) (fun e => by have e2 : wc.heap.size ≤ r := X10.out _ e; have := L9.out; omega)))
                | (go_at_call 18; refine (S4.out w12 F12.out).mono ?_; intro e w13 h13; obtain ⟨A13, c13, he13, r13, k13⟩ := told_rd h13; subst he13; have q13 := k13.cell (p := ⟨r + 1, 0, none⟩) q12 id; have D13 := Lib.hid r13; have R13 := Lib.hid (R12.out.new k13); have C13 := Lib.hid k13; clear h13 r13 k13)
                | (go_at_call 20; refine (S1.out w10.drew (Or.inr rfl)).mono ?_; rintro e w' ⟨rfl, hw⟩; subst hw)
                | (go_at_call 20; refine (S5.out w13 A13 c13 D13.out R13.out).mono ?_; rintro e w' ⟨rfl, hw⟩; subst hw))
            go_wp2_with fail
            go_ret
            exact ⟨rfl, (((K10.out.tr C11.out).own K12.out (fun i hi => by have := X10.out _ hi; have := K8.out.size; omega)).tr C13.out)⟩
end Go.Proofs.Ytghgmecaebheoaa
