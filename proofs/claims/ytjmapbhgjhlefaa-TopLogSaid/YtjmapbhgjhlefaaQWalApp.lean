/- wal.Append, wal.Read on a space, by the plain words. -/
import Derived.Test.YtjmapbhgjhlefaaQ14
import Derived.Test.YtjmapbhgjhlefaaQWalWakes
import Derived.Test.YtjmapbhgjhlefaaQGot
namespace Go.Proofs.Ytjmapbhgjhlefaa
open Go.RowKit
set_option linter.unusedVariables false
set_option maxRecDepth 100000

/-- Frames are laid one behind the other, until one is refused. -/
def Spc.appsL (n : Int) : List (List UInt8) → Spc → Dk → Spc × Dk × Int
  | [], S, D => (S, D, 0)
  | p :: ps, S, D => if (S.append n p D).2.2 = 0 then Spc.appsL n ps (S.append n p D).1 (S.append n p D).2.1 else S.append n p D
/-- A batch is appended. -/
def Spc.wapp (S : Spc) (n : Int) (b : List UInt8) (D : Dk) : Spc × Dk × Int :=
  match S.find n with
  | none => (S, D, 34)
  | some f => if 262144 < b.length then (S, D, 40) else if (f.blocks : Int) - f.frames.length < needN b.length then (S, D, 41) else Spc.appsL n (split b) S D
theorem appsL_cons (n : Int) (p : List UInt8) (ps : List (List UInt8)) (S : Spc) (D : Dk) : Spc.appsL n (p :: ps) S D = if (S.append n p D).2.2 = 0 then Spc.appsL n ps (S.append n p D).1 (S.append n p D).2.1 else S.append n p D := rfl
theorem split_len (b : List UInt8) : (split b).length = needN b.length := by unfold split; simp
theorem split_each {b p : List UInt8} (h : p ∈ split b) : p.length ≤ 480 := by
  unfold split at h
  obtain ⟨i, _, rfl⟩ := List.mem_map.1 h
  unfold frame
  rw [List.length_cons, piece_len]
  omega
theorem need_nat (k : Nat) (w : World) (h : k ≤ 9223372036854775807) : Calls Try.prog 50 #[.int .i64 (k : Int)] w fun e w' => e = .returned (.int .i64 (needN k : Int)) ∧ w = w' := by
  have := need_any (k : Int) w (by omega)
  have e : needI (k : Int) = (needN k : Int) := by rw [needI, if_pos (by omega), Int.toNat_natCast]
  rwa [e] at this
theorem txt_at {rs : Rows_} {ps : List (List UInt8)} (h : txt rs = ps) (i : Nat) (hi : i < rs.length) : ps.drop i = rs[i].2.2 :: ps.drop (i + 1) := by
  subst h
  rw [List.drop_eq_getElem_cons (by unfold txt; simpa using hi)]
  congr 1
  unfold txt
  simp
theorem RdV.sl_get {w : World} {A : Option Addr} {rs : Rows_} (h : RdV w A (rs.map slOf)) {k : Nat} (hk : k < rs.length) : ∃ b o, A = some ⟨b, o, none⟩ ∧ w.cell? ⟨b, o + k, none⟩ = some (slOf rs[k]) := by
  obtain ⟨b, o, e, hc⟩ := h (by intro e; have := congrArg List.length e; simp at this; rw [this] at hk; simp at hk)
  refine ⟨b, o, e, ?_⟩
  have := hc k (by simpa using hk)
  rw [this]
  simp
theorem Sat.drop3 {w0 w : World} {A B C F : SP} (h : Sat w0 (A * (B * (C * F))) w) : Sat w0 (A * (B * F)) w := (h.up3.right)
section
variable {w0 w : World} {F : SP} {s d n m : Nat} {D D' : Dk} {S S' : Spc} {sf : Nat → Nat} {lim : Nat} {f : Fl} {p : List UInt8}
/-- One frame more: what is known of the state behind it. -/
theorem app_next (hg : Good D S sf lim) (n : Int) (p : List UInt8) (hc : Cnt D m) (ha : D.armed ≤ 9223372036854775807) (h0 : (S.append n p D).2.2 = 0) :
    Good (S.append n p D).2.1 (S.append n p D).1 sf lim ∧ Cnt (S.append n p D).2.1 (m + 1) ∧ (S.append n p D).2.1.armed ≤ 9223372036854775807 := by
  have h := append_cases hg n p
  cases h with
  | none h1 e => rw [e] at h0; simp at h0
  | long f' h1 h2 e => rw [e] at h0; simp at h0
  | full f' h1 h2 h3 e => rw [e] at h0; simp at h0
  | off f' h1 h2 h3 h4 e => rw [e] at h0; simp at h0
  | ok f' h1 h2 h3 h4 e g =>
    obtain ⟨D', e', g', c', _, a'⟩ := app_ok hg h4 h1 h2 h3
    rw [e']
    exact ⟨g', c' _ hc, by rw [a']; omega⟩
end
section
variable {w0 w : World} {F : SP} {s d n m : Nat} {D : Dk} {S : Spc} {sf : Nat → Nat} {lim : Nat} {b : List UInt8}
set_option maxHeartbeats 4000000 in
theorem wapp_sp (n : Int) (A : Option Addr) (c : Nat) (hg : Good D S sf lim) (hc : Cnt D m) (hm : m ≤ 999999000) (ha : D.armed ≤ 9223372036854775807) (h : Sat w0 (SpaceP s d S * (Disk d D * F)) w) (hp : ∀ W, Sat w0 F W → Rd W A b) (hbc : b.length ≤ c) (hcm : c ≤ 9223372036854775807) :
    Calls Try.prog 19 #[.pointer (some ⟨s, 0, none⟩), .int .i64 n, .slice A b.length c] w fun e w' => e = .returned (.int .i64 (S.wapp n b D).2.2) ∧ Sat w0 (SpaceP s d (S.wapp n b D).1 * (Disk d (S.wapp n b D).2.1 * F)) w' := by
  have HS := Lib.hid h
  have hbl : b.length ≤ 9223372036854775807 := by omega
  obtain ⟨L, hL⟩ : ∃ L, L = b.length := ⟨_, rfl⟩
  cases hf : S.find n with
  | none =>
    have e1 : S.wapp n b D = (S, D, 34) := by unfold Spc.wapp; rw [hf]
    rw [e1]
    have HR := Lib.hid (room_sp_no (n := n) hg h hf)
    clear hg h e1 hL
    go_enter Try.func19, Try.ntmps19
    go_wp2_with (go_at_call 41; (with_reducible refine HR.out.mono ?_); rintro e w1 ⟨rfl, rfl⟩)
    go_ret
    exact ⟨rfl, HS.out⟩
  | some f =>
    have HR := Lib.hid (room_sp (n := n) hg h hf)
    by_cases h1 : 262144 < b.length
    · have e1 : S.wapp n b D = (S, D, 40) := by unfold Spc.wapp; rw [hf]; simp only; rw [if_pos h1]
      rw [e1]
      rw [← hL] at *
      have h1' : (262144 : Int) < L := by omega
      clear hg h e1 hL
      go_enter Try.func19, Try.ntmps19
      go_wp2_with (go_at_call 41; (with_reducible refine HR.out.mono ?_); rintro e w1 ⟨rfl, hs⟩; have HS1 := Lib.hid hs; clear hs)
      go_ret
      exact ⟨rfl, HS1.out⟩
    · have HN := fun W => need_nat b.length W hbl
      by_cases h2 : (f.blocks : Int) - f.frames.length < needN b.length
      · have e1 : S.wapp n b D = (S, D, 41) := by unfold Spc.wapp; rw [hf]; simp only; rw [if_neg h1, if_pos h2]
        rw [e1]
        generalize needN b.length = k at *
        generalize (f.blocks : Int) - f.frames.length = r at *
        rw [← hL] at *
        have h1' : ¬ (262144 : Int) < L := by omega
        have HN := Lib.hid HN
        clear hg h e1 hL
        go_enter Try.func19, Try.ntmps19
        go_wp2_with (first
          | (go_at_call 41; (with_reducible refine HR.out.mono ?_); rintro e w1 ⟨rfl, hs⟩; have HS1 := Lib.hid hs; clear hs)
          | (go_at_call 50; (with_reducible refine (HN.out _).mono ?_); rintro e wx ⟨rfl, rfl⟩))
        go_ret
        exact ⟨rfl, HS1.out⟩
      · have e1 : S.wapp n b D = Spc.appsL n (split b) S D := by unfold Spc.wapp; rw [hf]; simp only; rw [if_neg h1, if_neg h2]
        rw [e1]
        have HSp : Hid (∀ W, Sat w0 F W → Calls Try.prog 47 #[.slice A b.length c] W (Splitd b W)) := fun W hW => split_any A c b W (hp W hW) hbc hcm (by omega)
        have hN548 := needN_le b.length
        have HLn := Lib.hid (split_len b)
        have HEach : Hid (∀ p ∈ split b, p.length ≤ 480) := fun p hp => split_each hp
        unfold Splitd at HSp
        generalize hsp : split b = ps at *
        generalize needN b.length = k at *
        generalize hr0 : (f.blocks : Int) - f.frames.length = r at *
        rw [← hL] at *
        have h1' : ¬ (262144 : Int) < L := by omega
        have HN := Lib.hid HN
        have HG := Lib.hid hg; have HC := Lib.hid hc; have HA := Lib.hid ha
        have h2' : ¬ (r : Int) < k := h2
        clear hg h e1 hL hsp hr0 hc ha h1 h2 hf hbl hbc hcm hp
        go_enter Try.func19, Try.ntmps19
        go_upto_region 8 with (first
          | (go_at_call 41; (with_reducible refine HR.out.mono ?_); rintro e w1 ⟨rfl, hs⟩; have HS1 := Lib.hid hs; clear hs)
          | (go_at_call 50; (with_reducible refine (HN.out _).mono ?_); rintro e wx ⟨rfl, rfl⟩))
        have HSpl := Lib.hid (HSp.out _ HS1.out.right.right)
        go_upto_region 9 with (go_at_call 47; (with_reducible refine HSpl.out.mono ?_); rintro e w2 ⟨v, rs, rfl, ht, ho, hk⟩; have HS2 := Lib.hid (HS1.out.gotLL hk ho); have HT := Lib.hid ht; clear ht ho hk; obtain ⟨A2, c2, rfl, _⟩ := HS2.out.row_sl)
        have HLr : Hid (rs.length = k) := by unfold Hid; rw [← HLn.out, ← HT.out]; unfold txt; simp
        have HXk := Lib.hid (txt_at HT.out)
        obtain ⟨N, hN⟩ : ∃ N, N = rs.length := ⟨_, rfl⟩
        have HNr : Hid (N = rs.length ∧ N = ps.length) := ⟨hN, by rw [hN, HLr.out, HLn.out]⟩
        have hNk : N ≤ 548 := by rw [hN, HLr.out]; exact hN548
        rw [← hN] at HS2 ⊢
        clear hN HN HR HSp HSpl HS1 HS hN548
        go_loopw [35] (fun iv wr => ∃ (i : Nat) (S' : Spc) (D' : Dk), i ≤ N ∧ iv = .int .i64 (i : Int) ∧ Hid (Good D' S' sf lim ∧ Cnt D' (m + i) ∧ D'.armed ≤ 9223372036854775807 ∧ Spc.appsL n ps S D = Spc.appsL n (ps.drop i) S' D' ∧ Sat w0 (SpaceP s d S' * (Disk d D' * (Row 39 1 (.slice A2 N c2) N (rs.map slOf) * (OwnR rs * F)))) wr)) (fun iv _ => N - (intOf iv).toNat)
        case atStart => exact ⟨0, S, D, by omega, rfl, HG.out, HC.out, HA.out, rfl, HS2.out.of (by ac_rfl)⟩
        case round =>
          obtain ⟨i, S', D', hi, rfl, HD⟩ := hrel
          by_cases hlt : i < N
          · have hk2 : (i : Int) < N := by omega
            have hkm : i + 1 ≤ N := hlt
            have hir : i < rs.length := by rw [← HNr.out.1]; exact hlt
            obtain ⟨b5, o5, rfl, q0⟩ := HD.out.2.2.2.2.up3.row_rdvX.sl_get hir
            have hpe : (ps.drop i) = rs[i].2.2 :: ps.drop (i + 1) := HXk.out i hir
            have hpl : rs[i].2.2.length ≤ 480 := HEach.out _ (List.mem_of_mem_drop (i := i) (by rw [hpe]; exact List.mem_cons_self))
            have hrd : ∀ W, Sat w0 (Row 39 1 (.slice (some ⟨b5, o5, none⟩) N c2) N (rs.map slOf) * (OwnR rs * F)) W → Rd W rs[i].1 rs[i].2.2 := fun W hW => OwnR_rd hW.right (List.getElem_mem hir)
            obtain ⟨A3, c3, p, hx⟩ : ∃ A3 c3 p, rs[i] = (A3, c3, p) := ⟨_, _, _, rfl⟩
            rw [hx] at q0 hpe hpl hrd
            dsimp only at hpe hpl hrd
            unfold slOf at q0
            dsimp only at q0
            obtain ⟨S2, D2, r2, he⟩ : ∃ S2 D2 r2, S'.append n p D' = (S2, D2, r2) := ⟨_, _, _, rfl⟩
            have hAp := ap_at n A3 c3 p.length HD.out.1 HD.out.2.1 (by omega) HD.out.2.2.1 HD.out.2.2.2.2 hrd rfl he
            have hst : Spc.appsL n ps S D = if r2 = 0 then Spc.appsL n (ps.drop (i + 1)) S2 D2 else (S2, D2, r2) := by
              rw [HD.out.2.2.2.1, hpe, appsL_cons, he]
            have hnx := fun h0 => app_next HD.out.1 n p HD.out.2.1 HD.out.2.2.1 (by rw [he]; exact h0)
            rw [he] at hnx
            have HAp := Lib.hid hAp; have HSt := Lib.hid hst; have HNx := Lib.hid hnx
            clear hAp hst hnx hpe hrd hx he
            generalize p.length = pl at *
            by_cases hr2 : r2 = 0
            · subst hr2
              have HN0 := Lib.hid (HNx.out rfl)
              have HS0 : Hid (Spc.appsL n ps S D = Spc.appsL n (ps.drop (i + 1)) S2 D2) := by unfold Hid; rw [HSt.out, if_pos rfl]
              clear HNx HSt
              go_wp2_with (go_at_call 29; (with_reducible refine HAp.out.mono ?_); rintro e w4 ⟨rfl, hs⟩; have HS4 := Lib.hid hs; clear hs)
              go_roundw
              · exact ⟨i + 1, S2, D2, hkm, by push_cast; rfl, HN0.out.1, HN0.out.2.1, HN0.out.2.2, HS0.out, HS4.out⟩
              · simp [intOf]; omega
            · have hr3 : (r2 != 0) = true := by rw [bne_iff_ne]; exact hr2
              have HE : Hid (Spc.appsL n ps S D = (S2, D2, r2)) := by unfold Hid; rw [HSt.out, if_neg hr2]
              go_wp2_with (go_at_call 29; (with_reducible refine HAp.out.mono ?_); rintro e w4 ⟨rfl, hs⟩; have HS4 := Lib.hid hs; clear hs)
              go_ret
              rw [HE.out]
              exact ⟨rfl, HS4.out.drop3.drop3⟩
          · have hk2 : ¬ (i : Int) < N := by omega
            have HE : Hid (Spc.appsL n ps S D = (S', D', 0)) := by
              unfold Hid
              rw [HD.out.2.2.2.1, List.drop_of_length_le (by have := HNr.out.2; omega)]
              rfl
            go_wp2_with fail
            go_ret
            rw [HE.out]
            exact ⟨rfl, HD.out.2.2.2.2.drop3.drop3⟩
end
end Go.Proofs.Ytjmapbhgjhlefaa
