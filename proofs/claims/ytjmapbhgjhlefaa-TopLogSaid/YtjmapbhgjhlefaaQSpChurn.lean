/- SpaceChurn: the walk. -/
import Derived.Test.YtjmapbhgjhlefaaQ14
import Derived.Test.YtjmapbhgjhlefaaQ15
import Derived.Test.YtjmapbhgjhlefaaQWithin
namespace Go.Proofs.Ytjmapbhgjhlefaa
open Go.RowKit
set_option linter.unusedVariables false
set_option maxRecDepth 100000

section
variable {D : Dk} {S : Spc} {sf : Nat → Nat} {lim n m a b t : Nat}
def chF (a b n m t : Nat) (fr : List (List UInt8)) : List Fl := [⟨a, 2, n, t, 1, fr⟩, ⟨b, 2 + n, m, t, 1, []⟩]
theorem place_one {k : Nat} {bl : Int} (h : 1 ≤ bl) (h2 : bl ≤ (k : Int) - 2) : placeX k bl 2 (sortF []) = (2, true) := by
  show placeX k bl 2 [] = _
  unfold placeX
  rw [decide_eq_true (by show bl ≤ (k : Int) - ((2 : Nat) : Int); omega)]
theorem place_two {k n : Nat} {bl : Int} (h : 1 ≤ bl) (h2 : bl ≤ (k : Int) - (2 + n : Nat)) : placeX k bl 2 (sortF [(2, n)]) = (2 + n, true) := by
  show placeX k bl 2 [(2, n)] = _
  unfold placeX
  rw [if_neg (by show ¬ bl ≤ ((2 : Nat) : Int) - ((2 : Nat) : Int); omega)]
  unfold placeX
  rw [decide_eq_true (by show bl ≤ (k : Int) - ((2 + n : Nat) : Int); omega)]
theorem ch_one (hg : Good D S sf lim) (hlim : lim + 1 ≤ 1000000000) (hf : S.files = []) (ha : D.armed = 0) (hl : D.cells.length = 34) (hab : 1 ≤ a ∧ a < b ∧ b < 2147483648) (hn : 1 ≤ n ∧ n ≤ 8) (hm : 1 ≤ m ∧ m ≤ 8) :
    ∃ D', S.switch [⟨a, 0, n⟩, ⟨b, 0, m⟩] [] D = (⟨1 - S.slot, S.turn + 1, chF a b n m (S.turn + 1) []⟩, D', 0) ∧ Good D' ⟨1 - S.slot, S.turn + 1, chF a b n m (S.turn + 1) []⟩ (fun _ => 0) (lim + 1) ∧ (∀ n, Cnt D n → Cnt D' (n + 1)) ∧ D'.cells.length = 34 ∧ D'.armed = 0 := by
  have hfind : ∀ x, S.find x = none := fun x => by unfold Spc.find; rw [hf]; rfl
  have hmay : S.may [⟨a, 0, n⟩, ⟨b, 0, m⟩] [] = true := by
    have h1 : (1 : Int) ≤ a := by omega
    have h2 : (a : Int) ≤ 2147483647 := by omega
    have h3 : (1 : Int) ≤ n := by omega
    have h4 : (1 : Int) ≤ b := by omega
    have h5 : (b : Int) ≤ 2147483647 := by omega
    have h6 : (1 : Int) ≤ m := by omega
    have h7 : ¬ (b : Int) = a := by omega
    simp [Spc.may, Spc.mayDrop, Spc.mayAdd, hfind, h1, h2, h3, h4, h5, h6, h7]
  have hadd : addX D.cells.length (S.turn + 1) [⟨a, 0, n⟩, ⟨b, 0, m⟩] S.lie (S.files.filter fun f => !([] : List Int).contains (f.num : Int)) = some (chF a b n m (S.turn + 1) []) := by
    have e1 : S.lie = [] := by unfold Spc.lie; rw [hf]; rfl
    have e2 : (S.files.filter fun f => !([] : List Int).contains (f.num : Int)) = [] := by rw [hf]; rfl
    rw [e1, e2, hl, addX_yes (place_one (by show (1 : Int) ≤ (n : Int); omega) (by show (n : Int) ≤ _; omega))]
    show addX 34 (S.turn + 1) [⟨b, 0, m⟩] [(2, n)] [⟨a, 2, n, S.turn + 1, 1, []⟩] = _
    rw [addX_yes (place_two (n := n) (by show (1 : Int) ≤ (m : Int); omega) (by show (m : Int) ≤ _; omega))]
    rfl
  have hsort : sortN (chF a b n m (S.turn + 1) []) = chF a b n m (S.turn + 1) [] := by
    show insN _ [_] = _
    unfold insN
    rw [if_pos (by show a ≤ b; omega)]
    rfl
  obtain ⟨D', e, g, c, l, r⟩ := sw_ok hg hlim (by omega) hmay (by rw [hf]; show (0 : Int) + 2 - 0 ≤ 24; decide) hadd
  rw [hsort] at e g
  have hsf : lenAt (chF a b n m (S.turn + 1) []) = fun _ => 0 := by
    funext x
    unfold lenAt
    cases hq : (chF a b n m (S.turn + 1) []).find? fun f => f.num == x with
    | none => rfl
    | some f =>
      have hmem := List.mem_of_find?_eq_some hq
      unfold chF at hmem
      rcases List.mem_cons.1 hmem with rfl | hmem
      · rfl
      · rw [List.mem_singleton.1 hmem]
        rfl
  rw [hsf] at g
  exact ⟨D', e, g, c, l.trans hl, by omega⟩
theorem ch_two {g h : Fl} (hg : Good D S sf lim) (hlim : lim + 1 ≤ 1000000000) (hf : S.files = [g, h]) (h1 : g.num = a) (h2 : h.num = b) (hab : a ≠ b) (ha : D.armed = 0) :
    ∃ D', S.switch [] [(a : Int), (b : Int)] D = (⟨1 - S.slot, S.turn + 1, []⟩, D', 0) ∧ Good D' ⟨1 - S.slot, S.turn + 1, []⟩ (lenAt []) (lim + 1) ∧ (∀ n, Cnt D n → Cnt D' (n + 1)) ∧ D'.cells.length = D.cells.length ∧ D'.armed = 0 := by
  have hmay : S.may [] [(a : Int), (b : Int)] = true := by
    have h3 : ¬ (b : Int) = a := by omega
    have e1 : S.find a = some g := by
      unfold Spc.find
      rw [hf, List.find?_cons, show (((g.num : Nat) : Int) == (a : Int)) = true by rw [h1]; simp]
    have e2 : S.find b = some h := by
      unfold Spc.find
      rw [hf, List.find?_cons, show (((g.num : Nat) : Int) == (b : Int)) = false by rw [h1]; simp; omega, List.find?_cons, show (((h.num : Nat) : Int) == (b : Int)) = true by rw [h2]; simp]
    have e3 : ([(a : Int)].contains (b : Int)) = false := by simpa using h3
    simp only [Spc.may, Spc.mayDrop, Spc.mayAdd, e1, e2, Option.isSome_some, List.contains_nil, List.nil_append, e3]
    rfl
  obtain ⟨D', e, g', c, l, r⟩ := sw_ok hg hlim (add := []) (drop := [(a : Int), (b : Int)]) (fs := []) (by omega) hmay (by rw [hf]; show (2 : Int) + 0 - 2 ≤ 24; decide) (by
    show some _ = _
    congr 1
    rw [hf]
    simp [h1, h2])
  exact ⟨D', e, g', c, l, by omega⟩
theorem ch_app {fr : List (List UInt8)} {p : List UInt8} {sl : Nat} (hg : Good D ⟨sl, t, chF a b n m t fr⟩ sf lim) (hp : p.length ≤ 480) (hfr : fr.length < n) (ha : D.armed = 0) (hab : a < b) :
    ∃ D', Spc.append ⟨sl, t, chF a b n m t fr⟩ (a : Int) p D = (⟨sl, t, chF a b n m t (fr ++ [p])⟩, D', 0) ∧ Good D' ⟨sl, t, chF a b n m t (fr ++ [p])⟩ sf lim ∧ (∀ n, Cnt D n → Cnt D' (n + 1)) ∧ D'.cells.length = D.cells.length ∧ D'.armed = 0 := by
  have hfi : Spc.find ⟨sl, t, chF a b n m t fr⟩ (a : Int) = some ⟨a, 2, n, t, 1, fr⟩ := by
    unfold Spc.find chF
    simp
  have hgr : Spc.grow ⟨sl, t, chF a b n m t fr⟩ a p = ⟨sl, t, chF a b n m t (fr ++ [p])⟩ := by
    unfold Spc.grow chF
    simp only [List.map_cons, List.map_nil, if_true]
    rw [if_neg (by omega)]
  obtain ⟨D', e, g, c, l, r⟩ := app_ok hg (n := (a : Int)) (p := p) (by omega) hfi hp hfr
  rw [hgr] at e g
  exact ⟨D', e, g, c, l, by omega⟩
/-- Opened again: the same files, but for the life. -/
theorem ch_again {fr : List (List UInt8)} {sl : Nat} (hg : Good D ⟨sl, t, chF a b n m t fr⟩ sf lim) (hlim : lim + 1 ≤ 1000000000) (hab : a < b) :
    ∃ g h, openX D = (some ⟨sl, t, [g, h]⟩, 0) ∧ Good D ⟨sl, t, [g, h]⟩ sf (lim + 1) ∧ (g.num = a ∧ g.blocks = n ∧ g.frames = fr) ∧ h.num = b ∧ h.blocks = m ∧ h.frames = [] := by
  obtain ⟨gs, e1, e2, e3⟩ := found_again hg hlim
  match gs, e1, e2, e3 with
  | [g, h], e1, ⟨⟨a1, a2, a3, a4, k, a5, a6, a7⟩, ⟨b1, b2, b3, b4, q, b5, b6, b7⟩, _⟩, e3 =>
    refine ⟨g, h, e1, e3, ⟨a1, a3, ?_⟩, b1, b3, ?_⟩
    · rw [a7]
      have : lenAt (chF a b n m t fr) a = fr.length := by unfold lenAt chF; simp
      have h5 : fr.length ≤ k := by rw [← this]; exact a5
      exact List.take_of_length_le h5
    · rw [b7]
      exact List.take_nil
end
def chB (i k : Nat) : List UInt8 := [UInt8.ofNat i, UInt8.ofNat k]
def chR (i k : Nat) : List (List UInt8) := (List.range k).map (chB i)
theorem chR_succ (i k : Nat) : chR i (k + 1) = chR i k ++ [chB i k] := by unfold chR; rw [List.range_succ, List.map_append]; rfl
theorem chR_len (i k : Nat) : (chR i k).length = k := by unfold chR; simp
/-- What a round begins with. -/
structure ChOk (D : Dk) (S : Spc) (i : Nat) : Prop where
  files : S.files = []
  good : ∃ sf lim, Good D S sf lim ∧ lim ≤ 1 + 3 * i
  cnt : Cnt D (1 + 10 * i)
  armed : D.armed = 0
  len : D.cells.length = 34
theorem bvN (i : Nat) (h : i < 256) : bv (UInt8.ofNat i) = .int .u8 (i : Int) := by
  unfold bv
  rw [UInt8.toNat_ofNat']
  rw [Nat.mod_eq_of_lt (by omega)]
set_option maxHeartbeats 16000000 in
theorem spaceChurn_walk (A : Option Addr) (c : Nat) (ks : List (Int × Int × Int)) (again : Bool) (w : World) (hp : ks.length ≤ c ∧ c ≤ maxLen ∧ RdV w A (ks.flatMap v3) ∧ ks.length * 24 ≤ 140737488351232 ∧ ∀ y ∈ ks, isI64 y.1 ∧ isI64 y.2.1 ∧ isI64 y.2.2) :
    Calls Try.prog 4 #[.slice A ks.length c, .bool again] w (Asked true w) := by
  obtain ⟨D0, hD0⟩ : ∃ D, D = beginD 34 := ⟨_, rfl⟩
  have hg0 : Good D0 ⟨1, 1, []⟩ (fun _ => 0) 1 := by rw [hD0]; exact begin_good (by omega) (by omega)
  have hl0 : D0.cells.length = 34 := by rw [hD0]; exact begin_len
  have HCh0 : Hid (ChOk D0 ⟨1, 1, []⟩ 0) := ⟨rfl, ⟨_, _, hg0, by omega⟩, by rw [hD0]; exact begin_cnt, by rw [hD0]; exact begin_armed, hl0⟩
  have HB : Hid (Calls Try.prog 24 #[.int .i64 34] w fun e w' => ∃ d s, e = .returned (.tuple #[.pointer (some ⟨d, 0, none⟩), .pointer (some ⟨s, 0, none⟩)]) ∧ Sat w (SpaceP s d ⟨1, 1, []⟩ * (Disk d D0 * Emp)) w') := by rw [hD0]; exact begin_any (w0 := w) (F := Emp) 34 (by omega) (Sat.start w)
  have HFr0 : Hid (∀ W s d, Sat w (SpaceP s d ⟨1, 1, []⟩ * (Disk d D0 * Emp)) W → Calls Try.prog 25 #[.pointer (some ⟨s, 0, none⟩)] W fun e w' => e = .returned (.int .i64 32) ∧ W = w') := fun W s d hW => by
    have h9 := free_sp hg0 hW
    rw [hl0] at h9
    exact h9
  have HP := Lib.hid hp
  have hkl : ks.length ≤ 5864062014640 := by omega
  clear hD0 hg0 hl0 hp
  go_enter Try.func4, Try.ntmps4
  go_upto_region 2 with (go_at_call 24; (with_reducible refine HB.out.mono ?_); rintro e w2 ⟨d, s, rfl, hs⟩; have HS2 := Lib.hid hs; clear hs)
  have HFr := Lib.hid (HFr0.out w2 s d HS2.out)
  go_wp2_with (first
    | (go_at_call 25; (with_reducible refine HFr.out.mono ?_); rintro e wx ⟨rfl, rfl⟩)
    | (go_at_call 26; have h9 := wakes3_any HS2.out; (with_reducible refine h9.mono ?_); rintro e w3 ⟨rfl, hs⟩; have HS3 := Lib.hid hs; clear hs h9))
  clear HB HFr0 HFr HS2
  go_loopw [6, 7] (fun sv iv wr => ∃ (i s : Nat) (S : Spc) (D : Dk), i ≤ ks.length ∧ i ≤ 30 ∧ sv = .pointer (some ⟨s, 0, none⟩) ∧ iv = .int .i64 (i : Int) ∧ Hid (ChOk D S i ∧ Sat w (SpaceP s d S * (Disk d D * Emp)) wr)) (fun _ iv _ => 30 - (intOf iv).toNat)
  case atStart => exact ⟨0, s, _, D0, by omega, by omega, rfl, rfl, HCh0.out, HS3.out⟩
  case round =>
    obtain ⟨i, s2, S, D, hi, hi30, rfl, rfl, HD⟩ := hrel
    by_cases hlt : i < ks.length ∧ i < 30
    · have hk2 : (i : Int) < ks.length := by omega
      have hk3 : (i : Int) < 30 := by omega
      obtain ⟨b, o, rfl, hc⟩ := RdV.elem (f := v3) (k := 3) (fun _ => rfl) (by decide) (HP.out.2.2.1.new HD.out.2.chg) hlt.1
      have q0 : wr.cell? ⟨b, o + i * 3, none⟩ = some (.int .i64 ks[i].1) := hc 0 (by omega)
      have q1 : wr.cell? ⟨b, o + i * 3 + 1, none⟩ = some (.int .i64 ks[i].2.1) := hc 1 (by omega)
      have hxw := HP.out.2.2.2.2 ks[i] (List.getElem_mem hlt.1)
      have HPc : Hid (∀ W, Chg No w W → W.cell? ⟨b, o + i * 3 + 2, none⟩ = some (.int .i64 ks[i].2.2)) := fun W hW => by
        obtain ⟨b', o', e', hc'⟩ := RdV.elem (f := v3) (k := 3) (fun _ => rfl) (by decide) (HP.out.2.2.1.new hW) hlt.1
        injection e' with e'
        injection e' with e1 e2
        subst e1; subst e2
        exact hc' 2 (by omega)
      clear hc
      generalize ks[i] = x at *
      obtain ⟨x0, x1, x2⟩ := x
      dsimp only at q0 q1 hxw HPc
      obtain ⟨n, hn⟩ : ∃ n : Nat, n = (1 + x0 % 8).toNat := ⟨_, rfl⟩
      obtain ⟨m, hm⟩ : ∃ n : Nat, n = (1 + x1 % 8).toNat := ⟨_, rfl⟩
      have hn8 : 1 ≤ n ∧ n ≤ 8 := by omega
      have hm8 : 1 ≤ m ∧ m ≤ 8 := by omega
      have hma : bits .and .i64 x0 7 = (n : Int) - 1 := by rw [and7]; omega
      have hmb : bits .and .i64 x1 7 = (m : Int) - 1 := by rw [and7]; omega
      have hka : (1 : Int) + ((n : Int) - 1) = n := by omega
      have hkb : (1 : Int) + ((m : Int) - 1) = m := by omega
      obtain ⟨N1, hN1⟩ : ∃ N, N = 1 + i := ⟨_, rfl⟩
      obtain ⟨N2, hN2⟩ : ∃ N, N = 1000 + i := ⟨_, rfl⟩
      have hk1 : (1 : Int) + (i : Int) = N1 := by omega
      have hk1000 : (1000 : Int) + (i : Int) = N2 := by omega
      have hNb : 1 ≤ N1 ∧ N1 < N2 ∧ N2 < 2000 := by omega
      obtain ⟨hSf, ⟨sf, lim, hg, hlim⟩, hcn, har, hln⟩ := HD.out.1
      obtain ⟨D1, e1, hg1, hc1, hl1, ha1⟩ := ch_one hg (by omega) hSf har hln (a := N1) (b := N2) (n := n) (m := m) ⟨hNb.1, hNb.2.1, by omega⟩ hn8 hm8
      have HE1 := Lib.hid e1; have HG := Lib.hid hg; have HG1 := Lib.hid hg1; have HC := Lib.hid hcn; have HC1 := Lib.hid (hc1 _ hcn)
      have HAr : Hid (D.armed ≤ 9223372036854775807) := by unfold Hid; omega
      have HAr1 := Lib.hid ha1; have HLn1 := Lib.hid hl1; have HLim := Lib.hid hlim
      have HS := Lib.hid HD.out.2
      have hN2s : N2 < 2000 := hNb.2.2
      have HNb := Lib.hid hNb; have HNa : Hid (N1 = 1 + i ∧ N2 = 1000 + i) := ⟨hN1, hN2⟩
      have hn8' : n ≤ 8 := hn8.2
      have hm8' : m ≤ 8 := hm8.2
      have Hn8 := Lib.hid hn8; have Hm8 := Lib.hid hm8
      obtain ⟨sl, hsl⟩ : ∃ sl, sl = 1 - S.slot := ⟨_, rfl⟩
      obtain ⟨t, ht⟩ : ∃ t, t = S.turn + 1 := ⟨_, rfl⟩
      rw [← hsl, ← ht] at HE1 HG1
      clear HD hSf hg hlim hcn har hln e1 hg1 hc1 hl1 ha1 hn hm hN1 hN2 hNb hsl ht hn8 hm8 hxw
      go_upto_region 11 with (first | (go_at_call 17; have h8 := HS.out.allocPt 35 #[.int .i64 (N1 : Int), .int .i64 0, .int .i64 (n : Int), .int .i64 (N2 : Int), .int .i64 0, .int .i64 (m : Int)]; have h9 := sw_add wr.heap.size 2 2 _ [⟨N1, 0, n⟩, ⟨N2, 0, m⟩] HG.out (by have := HLim.out; omega) HC.out (by omega) HAr.out h8 rfl rfl (by omega) (fun f hf => by simp only [List.mem_cons, List.not_mem_nil, or_false] at hf; rcases hf with rfl | rfl <;> exact ⟨by dsimp only; omega, by dsimp only; omega⟩) HE1.out; (with_reducible refine h9.mono ?_); rintro e w5 ⟨rfl, hs⟩; have HS5 := Lib.hid hs; clear hs h8 h9) | (go_at_call 27; (with_reducible refine (num3_any _ _).mono ?_); rintro e wx ⟨rfl, rfl⟩))
      have q2 := HPc.out w5 HS5.out.chg
      obtain ⟨fl, hfl⟩ : ∃ f, f = wi x2 (n : Int) := ⟨_, rfl⟩
      have hfn : fl ≤ n := by rw [hfl]; have := wi_le x2 (n : Int) (by omega); omega
      have HWi := Lib.hid (within0 x2 (n : Int) w5 (by omega) (by omega))
      rw [← hfl] at HWi
      clear q0 q1 hma hmb hfl HPc
      go_wp2_with (go_at_call 28; (with_reducible refine HWi.out.mono ?_); rintro e wx ⟨rfl, rfl⟩)
      clear q2 HWi
      go_loopw [11] (fun kv wr => ∃ (k : Nat) (D2 : Dk), k ≤ fl ∧ kv = .int .i64 (k : Int) ∧ Hid ((Good D2 ⟨sl, t, chF N1 N2 n m t (chR i k)⟩ (fun _ => 0) (lim + 1) ∧ Cnt D2 (2 + 10 * i + k) ∧ D2.armed = 0 ∧ D2.cells.length = 34) ∧ Sat w (SpaceP s2 d ⟨sl, t, chF N1 N2 n m t (chR i k)⟩ * (Disk d D2 * Emp)) wr)) (fun kv _ => fl - (intOf kv).toNat)
      case atStart => exact ⟨0, D1, by omega, rfl, ⟨HG1.out, HC1.out.mono (by omega), HAr1.out, HLn1.out⟩, HS5.out⟩
      case round =>
        obtain ⟨k, D2, hk, rfl, HDk⟩ := hrel
        by_cases hkf : k < fl
        · have hk4 : (k : Int) < fl := by omega
          have hk9 : k < 8 := by omega
          have hkm : k + 1 ≤ fl := hkf
          obtain ⟨hgk, hck, hak, hlk⟩ := HDk.out.1
          obtain ⟨D3, e3, hg3, hc3, hl3, ha3⟩ := ch_app (p := chB i k) hgk (by show 2 ≤ 480; decide) (by rw [chR_len]; omega) hak HNb.out.2.1
          rw [← chR_succ] at e3 hg3
          have HE3 := Lib.hid e3; have HG2 := Lib.hid hgk; have HG3 := Lib.hid hg3; have HC2 := Lib.hid hck; have HC3 := Lib.hid (hc3 _ hck)
          have HA2 : Hid (D2.armed ≤ 9223372036854775807) := by unfold Hid; omega
          have HA3 := Lib.hid ha3; have HL3 := Lib.hid (hl3.trans hlk)
          have HSk := Lib.hid HDk.out.2
          have HBv : Hid ((chB i k).map bv = [.int .u8 (i : Int), .int .u8 (k : Int)]) := by unfold Hid chB; rw [List.map_cons, List.map_cons, List.map_nil, bvN i (by omega), bvN k (by omega)]
          clear HDk hgk hck hak hlk e3 hg3 hc3 hl3 ha3 hkf
          go_wp2_with (first | (go_at_call 29; have h8 := HSk.out.allocPt 5 #[.int .u8 (i : Int), .int .u8 (k : Int)]; have h9 := ap_at (N1 : Int) (some ⟨wr.heap.size, 0, none⟩) 2 2 (p := chB i k) HG2.out HC2.out (by omega) HA2.out (F := Pt wr.heap.size 5 #[.int .u8 (i : Int), .int .u8 (k : Int)] * Emp) (h8.of (by ac_rfl)) (fun W hW => by show RdV W _ ((chB i k).map bv); rw [HBv.out]; exact lit_fi hW rfl) rfl HE3.out; (with_reducible refine h9.mono ?_); rintro e w6 ⟨rfl, hs⟩; have HS6 := Lib.hid hs.up3.right; clear hs h8 h9) | (go_at_call 27; (with_reducible refine (num3_any _ _).mono ?_); rintro e wx ⟨rfl, rfl⟩))
          go_roundw
          · exact ⟨k + 1, D3, hkm, by push_cast; rfl, ⟨HG3.out, HC3.out, HA3.out, HL3.out⟩, HS6.out⟩
          · simp [intOf]; omega
        · obtain rfl : k = fl := by omega
          have hk4 : ¬ (k : Int) < k := by omega
          clear HS5 HS HE1 HG HG1 HC HC1 HAr HAr1 HLn1
          cases again with
          | true =>
            obtain ⟨hgk, hck, hak, hlk⟩ := HDk.out.1
            obtain ⟨g, h, eo, hgT, hgn, hhn⟩ := ch_again hgk (by have := HLim.out; omega) HNb.out.2.1
            have HOp : Hid (Calls Try.prog 16 #[.pointer (some ⟨d, 0, none⟩)] wr fun e w' => ∃ s3, e = .returned (.tuple #[.pointer (some ⟨s3, 0, none⟩), .int .i64 0]) ∧ Sat w (SpaceP s3 d ⟨sl, t, [g, h]⟩ * (Disk d D2 * Emp)) w') := by
              refine (open_any HDk.out.2.right (by omega) (by omega)).mono ?_
              rintro e w' ⟨p, h1, h2⟩
              rw [eo] at h1 h2
              obtain ⟨s3, rfl⟩ := opt_some h2
              exact ⟨s3, h1, h2⟩
            obtain ⟨T, hT⟩ : ∃ T : Spc, T = ⟨sl, t, [g, h]⟩ := ⟨_, rfl⟩
            rw [← hT] at HOp hgT
            have HTf : Hid (T.files = [g, h]) := by unfold Hid; rw [hT]
            have HTG := Lib.hid hgT; have HTg := Lib.hid hgn; have HTh := Lib.hid hhn
            have HTl : Hid (lim + 1 + 1 ≤ 3 + 3 * i) := by have := HLim.out; unfold Hid; omega
            have HTc : Hid (Cnt D2 (10 + 10 * i)) := hck.mono (by omega)
            have HTa := Lib.hid hak; have HTn := Lib.hid hlk
            clear HDk hgk hck hak hlk eo hgT hgn hhn hT
            go_upto_region 22 with (first | (go_at_call 16; (with_reducible refine HOp.out.mono ?_); rintro e w9 ⟨s3, rfl, hs⟩; have HT0 := Lib.hid hs; clear hs) | (go_at_call 27; (with_reducible refine (num3_any _ _).mono ?_); rintro e wx ⟨rfl, rfl⟩))
            clear HOp
            have hfi1 : T.find (N1 : Int) = some g := by
              unfold Spc.find
              rw [HTf.out, List.find?_cons, show (((g.num : Nat) : Int) == (N1 : Int)) = true by rw [HTg.out.1]; simp]
            have hfi2 : T.find (N2 : Int) = some h := by
              unfold Spc.find
              rw [HTf.out, List.find?_cons, show (((g.num : Nat) : Int) == (N2 : Int)) = false by rw [HTg.out.1]; have := HNb.out.2.1; simp; omega, List.find?_cons, show (((h.num : Nat) : Int) == (N2 : Int)) = true by rw [HTh.out.1]; simp]
            have HF1 : Hid (Calls Try.prog 30 #[.pointer (some ⟨s3, 0, none⟩), .int .i64 (N1 : Int)] w9 fun e w' => ∃ A1 c1 ts, e = .returned (.tuple #[.slice A1 k c1, .int .i64 0]) ∧ ts.length = k ∧ txt ts = chR i k ∧ Sat w (SpaceP s3 d T * (Disk d D2 * (Row 39 1 (.slice A1 k c1) k (ts.map slOf) * (RoL ts * Emp)))) w') := (frames_sp HTG.out HT0.out hfi1).mono fun e w' ⟨u, ts, h1, h2, h3⟩ => by
              rw [HTg.out.2.2] at h2
              have hl : ts.length = k := by have := congrArg List.length h2; rw [txt, List.length_map, chR_len] at this; exact this
              rw [hl] at h3
              obtain ⟨A1, c1, rfl, _⟩ := h3.row_sl
              exact ⟨A1, c1, ts, h1, hl, h2, h3.of (by ac_rfl)⟩
            have HF2 : Hid (∀ W X, Sat w (SpaceP s3 d T * (Disk d D2 * X)) W → Calls Try.prog 30 #[.pointer (some ⟨s3, 0, none⟩), .int .i64 (N2 : Int)] W fun e w' => ∃ A1 c1, e = .returned (.tuple #[.slice A1 0 c1, .int .i64 0]) ∧ Sat w (SpaceP s3 d T * (Disk d D2 * X)) w') := fun W X hW => (frames_sp HTG.out hW hfi2).mono fun e w' ⟨u, ts, h1, h2, h3⟩ => by
              rw [HTh.out.2.2] at h2
              have hl : ts.length = 0 := by have := congrArg List.length h2; rw [txt, List.length_map] at this; exact this
              rw [hl] at h3
              obtain ⟨A1, c1, rfl, _⟩ := h3.row_sl
              exact ⟨A1, c1, h1, h3.right.right⟩
            have HF3 : Hid (∀ W X, Sat w (SpaceP s3 d T * (Disk d D2 * X)) W → Calls Try.prog 25 #[.pointer (some ⟨s3, 0, none⟩)] W fun e w' => e = .returned (.int .i64 (32 - (n : Int) - m)) ∧ W = w') := fun W X hW => (free_sp HTG.out hW).mono fun e w' ⟨h1, h2⟩ => by
              refine ⟨?_, h2⟩
              rw [h1, HTn.out, HTf.out]
              show Ending.returned (.int .i64 ((((34 : Nat) : Int) - 2 - (g.blocks : Int)) - (h.blocks : Int))) = _
              rw [HTg.out.2.1, HTh.out.2.1]
              rfl
            clear hfi1 hfi2
            go_upto_region 23 with (go_at_call 30; (with_reducible refine HF1.out.mono ?_); rintro e w10 ⟨A1, c1, ts, rfl, hts, htx, hs⟩; have HS10 := Lib.hid hs; have HTs := Lib.hid hts; have HTx := Lib.hid htx; clear hs hts htx)
            have HF2b := Lib.hid (HF2.out w10 _ HS10.out)
            go_upto_region 24 with (go_at_call 30; (with_reducible refine HF2b.out.mono ?_); rintro e w11 ⟨A2, c2, rfl, hs⟩; have HS11 := Lib.hid hs; clear hs)
            have HF3b := Lib.hid (HF3.out w11 _ HS11.out)
            go_wp2_with (first | (go_at_call 25; (with_reducible refine HF3b.out.mono ?_); rintro e wx ⟨rfl, rfl⟩) | (go_at_call 27; (with_reducible refine (num3_any _ _).mono ?_); rintro e wx ⟨rfl, rfl⟩))
            clear HF1 HF2 HF3 HF2b HF3b HT0 HS10
            go_loopw [18] (fun kv wr => ∃ z : Nat, z ≤ k ∧ kv = .int .i64 (z : Int) ∧ Hid (Sat w (SpaceP s3 d T * (Disk d D2 * (Row 39 1 (.slice A1 k c1) k (ts.map slOf) * (RoL ts * Emp)))) wr)) (fun kv _ => k - (intOf kv).toNat)
            case atStart => exact ⟨0, by omega, rfl, HS11.out⟩
            case round =>
              obtain ⟨z, hz, rfl, HDz⟩ := hrel
              by_cases hzk : z < k
              · have hz4 : (z : Int) < k := by omega
                have hz8 : z < 8 := by omega
                have hzm : z + 1 ≤ k := hzk
                have hzt : z < ts.length := by rw [HTs.out]; exact hzk
                have hrd : RdL wr A1 ts := ⟨RdV.of_own HDz.out.up3.row_own, fun x hx => HDz.out.up4.rol hx⟩
                obtain ⟨⟨b3, o3, rfl, hc3⟩, hx⟩ := hrd.get hzt
                have htz : ts[z].2.2 = chB i z := by
                  have h9 : (txt ts)[z]? = (chR i k)[z]? := by rw [HTx.out]
                  rw [txt, List.getElem?_map, List.getElem?_eq_getElem hzt, chR, List.getElem?_map, List.getElem?_range hzk] at h9
                  exact Option.some.inj h9
                obtain ⟨Ay, cy, hy⟩ : ∃ Ay cy, ts[z] = (Ay, cy, chB i z) := ⟨ts[z].1, ts[z].2.1, by rw [← htz]⟩
                rw [hy] at hc3 hx
                have HBv : Hid ((chB i z).map bv = [.int .u8 (i : Int), .int .u8 (z : Int)]) := by unfold Hid chB; rw [List.map_cons, List.map_cons, List.map_nil, bvN i (by omega), bvN z (by omega)]
                have HSa : Hid (Calls Try.prog 31 #[.slice Ay 2 cy, .slice (some ⟨wr.heap.size, 0, none⟩) 2 2] (wr.alloc (.cells #[.int .u8 (i : Int), .int .u8 (z : Int)] 5)) fun e w' => e = .returned (.bool true) ∧ wr.alloc (.cells #[.int .u8 (i : Int), .int .u8 (z : Int)] 5) = w') := by
                  have h9 := same_any Ay (some ⟨wr.heap.size, 0, none⟩) cy 2 (chB i z) (chB i z) (wr.alloc (.cells #[.int .u8 (i : Int), .int .u8 (z : Int)] 5)) (hx.alloc _) (by show RdV _ _ ((chB i z).map bv); rw [HBv.out]; exact RdV.lit _ _ _ _)
                  rw [beq_self_eq_true] at h9
                  exact h9
                have q3 : wr.cell? ⟨b3, o3 + z, none⟩ = some (.slice Ay 2 cy) := hc3
                clear hrd hx hc3 htz hy hzt hzk
                go_wp2_with (go_at_call 31; (with_reducible refine HSa.out.mono ?_); rintro e wx ⟨rfl, rfl⟩)
                go_roundw
                · exact ⟨z + 1, hzm, by push_cast; rfl, HDz.out.alloc' _⟩
                · simp [intOf]; omega
              · have hz4 : ¬ (z : Int) < k := by omega
                have HSz := Lib.hid HDz.out
                obtain ⟨D4, e4, hg4, hc4, hl4, ha4⟩ := ch_two HTG.out (by have := HTl.out; omega) HTf.out HTg.out.1 HTh.out.1 (by have := HNb.out.2.1; omega) HTa.out
                have HE4 := Lib.hid e4; have HG4 := Lib.hid hg4; have HC4 := Lib.hid (hc4 _ HTc.out); have HL4 := Lib.hid (hl4.trans HTn.out); have HA4 := Lib.hid ha4
                have HAt : Hid (D2.armed ≤ 9223372036854775807) := by unfold Hid; have := HTa.out; omega
                have HFe : Hid (∀ W X, Sat w (SpaceP s3 d ⟨1 - T.slot, T.turn + 1, []⟩ * (Disk d D4 * X)) W → Calls Try.prog 25 #[.pointer (some ⟨s3, 0, none⟩)] W fun e w' => e = .returned (.int .i64 32) ∧ W = w') := fun W X hW => by
                  have h9 := free_sp HG4.out hW
                  rw [HL4.out] at h9
                  exact h9
                have HFf : Hid (∀ W X, Sat w (SpaceP s3 d ⟨1 - T.slot, T.turn + 1, []⟩ * (Disk d D4 * X)) W → Calls Try.prog 32 #[.pointer (some ⟨s3, 0, none⟩)] W fun e w' => ∃ A5 c5, e = .returned (.slice A5 0 c5) ∧ Sat w (SpaceP s3 d ⟨1 - T.slot, T.turn + 1, []⟩ * (Disk d D4 * X)) w') := fun W X hW => (files_sp HG4.out hW).mono fun e w' ⟨u, h1, h2⟩ => by
                  obtain ⟨A5, c5, rfl, _⟩ := h2.row_sl
                  exact ⟨A5, c5, h1, h2.right⟩
                clear HDz e4 hg4 hc4 hl4 ha4
                have h8 := HSz.out.allocPt 3 #[.int .i64 (N1 : Int), .int .i64 (N2 : Int)]
                have HSw : Hid (Calls Try.prog 17 #[.pointer (some ⟨s3, 0, none⟩), .slice none 0 0, .slice (some ⟨wr.heap.size, 0, none⟩) 2 2] (wr.alloc (.cells #[.int .i64 (N1 : Int), .int .i64 (N2 : Int)] 3)) fun e w' => e = .returned (.int .i64 0) ∧ Sat w (SpaceP s3 d ⟨1 - T.slot, T.turn + 1, []⟩ * (Disk d D4 * Emp)) w') := (sw_drop wr.heap.size 2 2 _ [(N1 : Int), (N2 : Int)] HTG.out (by have := HTl.out; omega) HTc.out (by omega) HAt.out h8 rfl rfl (by omega) (fun x hx => by have := HNb.out; simp only [List.mem_cons, List.not_mem_nil, or_false] at hx; rcases hx with rfl | rfl <;> omega) HE4.out).mono fun e w' ⟨h1, h2⟩ => ⟨h1, (h2.up3.right.up3.right)⟩
                clear h8
                go_wp2_with (first
                  | (go_at_call 17; (with_reducible refine HSw.out.mono ?_); rintro e w12 ⟨rfl, hs⟩; have HS12 := Lib.hid hs; clear hs)
                  | (go_at_call 25; (with_reducible refine (HFe.out w12 _ HS12.out).mono ?_); rintro e wx ⟨rfl, rfl⟩)
                  | (go_at_call 32; (with_reducible refine (HFf.out w12 _ HS12.out).mono ?_); rintro e w13 ⟨A5, c5, rfl, hs⟩; have HS13 := Lib.hid hs; clear hs)
                  | (go_at_call 27; (with_reducible refine (num3_any _ _).mono ?_); rintro e wx ⟨rfl, rfl⟩))
                go_roundw
                · exact ⟨i + 1, s3, ⟨1 - T.slot, T.turn + 1, []⟩, D4, by omega, by omega, rfl, by push_cast; rfl, ⟨rfl, ⟨_, _, HG4.out, by have := HTl.out; omega⟩, HC4.out.mono (by omega), HA4.out, HL4.out⟩, HS13.out⟩
                · simp [intOf]; omega
          | false =>
            obtain ⟨hgk, hck, hak, hlk⟩ := HDk.out.1
            obtain ⟨s3, hs3⟩ : ∃ s3, s3 = s2 := ⟨_, rfl⟩
            obtain ⟨w9, hw9⟩ : ∃ w9, w9 = wr := ⟨_, rfl⟩
            obtain ⟨g, hgg⟩ : ∃ g : Fl, g = ⟨N1, 2, n, t, 1, chR i k⟩ := ⟨_, rfl⟩
            obtain ⟨h, hhh⟩ : ∃ g : Fl, g = ⟨N2, 2 + n, m, t, 1, []⟩ := ⟨_, rfl⟩
            obtain ⟨T, hT⟩ : ∃ T : Spc, T = ⟨sl, t, chF N1 N2 n m t (chR i k)⟩ := ⟨_, rfl⟩
            have HT0 := Lib.hid HDk.out.2
            rw [← hT] at hgk HT0
            have HTf : Hid (T.files = [g, h]) := by unfold Hid; rw [hT, hgg, hhh]; rfl
            have HTG := Lib.hid hgk
            have HTg : Hid (g.num = N1 ∧ g.blocks = n ∧ g.frames = chR i k) := by unfold Hid; rw [hgg]; exact ⟨rfl, rfl, rfl⟩
            have HTh : Hid (h.num = N2 ∧ h.blocks = m ∧ h.frames = []) := by unfold Hid; rw [hhh]; exact ⟨rfl, rfl, rfl⟩
            have HTl : Hid (lim + 1 ≤ 3 + 3 * i) := by have := HLim.out; unfold Hid; omega
            have HTc : Hid (Cnt D2 (10 + 10 * i)) := hck.mono (by omega)
            have HTa := Lib.hid hak; have HTn := Lib.hid hlk
            rw [← hs3, ← hw9] at HT0
            rw [← hs3, ← hw9]
            clear HDk hgk hck hak hlk hgg hhh hT hs3 hw9
            go_upto_region 22 with fail
            have hfi1 : T.find (N1 : Int) = some g := by
              unfold Spc.find
              rw [HTf.out, List.find?_cons, show (((g.num : Nat) : Int) == (N1 : Int)) = true by rw [HTg.out.1]; simp]
            have hfi2 : T.find (N2 : Int) = some h := by
              unfold Spc.find
              rw [HTf.out, List.find?_cons, show (((g.num : Nat) : Int) == (N2 : Int)) = false by rw [HTg.out.1]; have := HNb.out.2.1; simp; omega, List.find?_cons, show (((h.num : Nat) : Int) == (N2 : Int)) = true by rw [HTh.out.1]; simp]
            have HF1 : Hid (Calls Try.prog 30 #[.pointer (some ⟨s3, 0, none⟩), .int .i64 (N1 : Int)] w9 fun e w' => ∃ A1 c1 ts, e = .returned (.tuple #[.slice A1 k c1, .int .i64 0]) ∧ ts.length = k ∧ txt ts = chR i k ∧ Sat w (SpaceP s3 d T * (Disk d D2 * (Row 39 1 (.slice A1 k c1) k (ts.map slOf) * (RoL ts * Emp)))) w') := (frames_sp HTG.out HT0.out hfi1).mono fun e w' ⟨u, ts, h1, h2, h3⟩ => by
              rw [HTg.out.2.2] at h2
              have hl : ts.length = k := by have := congrArg List.length h2; rw [txt, List.length_map, chR_len] at this; exact this
              rw [hl] at h3
              obtain ⟨A1, c1, rfl, _⟩ := h3.row_sl
              exact ⟨A1, c1, ts, h1, hl, h2, h3.of (by ac_rfl)⟩
            have HF2 : Hid (∀ W X, Sat w (SpaceP s3 d T * (Disk d D2 * X)) W → Calls Try.prog 30 #[.pointer (some ⟨s3, 0, none⟩), .int .i64 (N2 : Int)] W fun e w' => ∃ A1 c1, e = .returned (.tuple #[.slice A1 0 c1, .int .i64 0]) ∧ Sat w (SpaceP s3 d T * (Disk d D2 * X)) w') := fun W X hW => (frames_sp HTG.out hW hfi2).mono fun e w' ⟨u, ts, h1, h2, h3⟩ => by
              rw [HTh.out.2.2] at h2
              have hl : ts.length = 0 := by have := congrArg List.length h2; rw [txt, List.length_map] at this; exact this
              rw [hl] at h3
              obtain ⟨A1, c1, rfl, _⟩ := h3.row_sl
              exact ⟨A1, c1, h1, h3.right.right⟩
            have HF3 : Hid (∀ W X, Sat w (SpaceP s3 d T * (Disk d D2 * X)) W → Calls Try.prog 25 #[.pointer (some ⟨s3, 0, none⟩)] W fun e w' => e = .returned (.int .i64 (32 - (n : Int) - m)) ∧ W = w') := fun W X hW => (free_sp HTG.out hW).mono fun e w' ⟨h1, h2⟩ => by
              refine ⟨?_, h2⟩
              rw [h1, HTn.out, HTf.out]
              show Ending.returned (.int .i64 ((((34 : Nat) : Int) - 2 - (g.blocks : Int)) - (h.blocks : Int))) = _
              rw [HTg.out.2.1, HTh.out.2.1]
              rfl
            clear hfi1 hfi2
            go_upto_region 23 with (go_at_call 30; (with_reducible refine HF1.out.mono ?_); rintro e w10 ⟨A1, c1, ts, rfl, hts, htx, hs⟩; have HS10 := Lib.hid hs; have HTs := Lib.hid hts; have HTx := Lib.hid htx; clear hs hts htx)
            have HF2b := Lib.hid (HF2.out w10 _ HS10.out)
            go_upto_region 24 with (go_at_call 30; (with_reducible refine HF2b.out.mono ?_); rintro e w11 ⟨A2, c2, rfl, hs⟩; have HS11 := Lib.hid hs; clear hs)
            have HF3b := Lib.hid (HF3.out w11 _ HS11.out)
            go_wp2_with (first | (go_at_call 25; (with_reducible refine HF3b.out.mono ?_); rintro e wx ⟨rfl, rfl⟩) | (go_at_call 27; (with_reducible refine (num3_any _ _).mono ?_); rintro e wx ⟨rfl, rfl⟩))
            clear HF1 HF2 HF3 HF2b HF3b HT0 HS10
            go_loopw [18] (fun kv wr => ∃ z : Nat, z ≤ k ∧ kv = .int .i64 (z : Int) ∧ Hid (Sat w (SpaceP s3 d T * (Disk d D2 * (Row 39 1 (.slice A1 k c1) k (ts.map slOf) * (RoL ts * Emp)))) wr)) (fun kv _ => k - (intOf kv).toNat)
            case atStart => exact ⟨0, by omega, rfl, HS11.out⟩
            case round =>
              obtain ⟨z, hz, rfl, HDz⟩ := hrel
              by_cases hzk : z < k
              · have hz4 : (z : Int) < k := by omega
                have hz8 : z < 8 := by omega
                have hzm : z + 1 ≤ k := hzk
                have hzt : z < ts.length := by rw [HTs.out]; exact hzk
                have hrd : RdL wr A1 ts := ⟨RdV.of_own HDz.out.up3.row_own, fun x hx => HDz.out.up4.rol hx⟩
                obtain ⟨⟨b3, o3, rfl, hc3⟩, hx⟩ := hrd.get hzt
                have htz : ts[z].2.2 = chB i z := by
                  have h9 : (txt ts)[z]? = (chR i k)[z]? := by rw [HTx.out]
                  rw [txt, List.getElem?_map, List.getElem?_eq_getElem hzt, chR, List.getElem?_map, List.getElem?_range hzk] at h9
                  exact Option.some.inj h9
                obtain ⟨Ay, cy, hy⟩ : ∃ Ay cy, ts[z] = (Ay, cy, chB i z) := ⟨ts[z].1, ts[z].2.1, by rw [← htz]⟩
                rw [hy] at hc3 hx
                have HBv : Hid ((chB i z).map bv = [.int .u8 (i : Int), .int .u8 (z : Int)]) := by unfold Hid chB; rw [List.map_cons, List.map_cons, List.map_nil, bvN i (by omega), bvN z (by omega)]
                have HSa : Hid (Calls Try.prog 31 #[.slice Ay 2 cy, .slice (some ⟨wr.heap.size, 0, none⟩) 2 2] (wr.alloc (.cells #[.int .u8 (i : Int), .int .u8 (z : Int)] 5)) fun e w' => e = .returned (.bool true) ∧ wr.alloc (.cells #[.int .u8 (i : Int), .int .u8 (z : Int)] 5) = w') := by
                  have h9 := same_any Ay (some ⟨wr.heap.size, 0, none⟩) cy 2 (chB i z) (chB i z) (wr.alloc (.cells #[.int .u8 (i : Int), .int .u8 (z : Int)] 5)) (hx.alloc _) (by show RdV _ _ ((chB i z).map bv); rw [HBv.out]; exact RdV.lit _ _ _ _)
                  rw [beq_self_eq_true] at h9
                  exact h9
                have q3 : wr.cell? ⟨b3, o3 + z, none⟩ = some (.slice Ay 2 cy) := hc3
                clear hrd hx hc3 htz hy hzt hzk
                go_wp2_with (go_at_call 31; (with_reducible refine HSa.out.mono ?_); rintro e wx ⟨rfl, rfl⟩)
                go_roundw
                · exact ⟨z + 1, hzm, by push_cast; rfl, HDz.out.alloc' _⟩
                · simp [intOf]; omega
              · have hz4 : ¬ (z : Int) < k := by omega
                have HSz := Lib.hid HDz.out
                obtain ⟨D4, e4, hg4, hc4, hl4, ha4⟩ := ch_two HTG.out (by have := HTl.out; omega) HTf.out HTg.out.1 HTh.out.1 (by have := HNb.out.2.1; omega) HTa.out
                have HE4 := Lib.hid e4; have HG4 := Lib.hid hg4; have HC4 := Lib.hid (hc4 _ HTc.out); have HL4 := Lib.hid (hl4.trans HTn.out); have HA4 := Lib.hid ha4
                have HAt : Hid (D2.armed ≤ 9223372036854775807) := by unfold Hid; have := HTa.out; omega
                have HFe : Hid (∀ W X, Sat w (SpaceP s3 d ⟨1 - T.slot, T.turn + 1, []⟩ * (Disk d D4 * X)) W → Calls Try.prog 25 #[.pointer (some ⟨s3, 0, none⟩)] W fun e w' => e = .returned (.int .i64 32) ∧ W = w') := fun W X hW => by
                  have h9 := free_sp HG4.out hW
                  rw [HL4.out] at h9
                  exact h9
                have HFf : Hid (∀ W X, Sat w (SpaceP s3 d ⟨1 - T.slot, T.turn + 1, []⟩ * (Disk d D4 * X)) W → Calls Try.prog 32 #[.pointer (some ⟨s3, 0, none⟩)] W fun e w' => ∃ A5 c5, e = .returned (.slice A5 0 c5) ∧ Sat w (SpaceP s3 d ⟨1 - T.slot, T.turn + 1, []⟩ * (Disk d D4 * X)) w') := fun W X hW => (files_sp HG4.out hW).mono fun e w' ⟨u, h1, h2⟩ => by
                  obtain ⟨A5, c5, rfl, _⟩ := h2.row_sl
                  exact ⟨A5, c5, h1, h2.right⟩
                clear HDz e4 hg4 hc4 hl4 ha4
                have h8 := HSz.out.allocPt 3 #[.int .i64 (N1 : Int), .int .i64 (N2 : Int)]
                have HSw : Hid (Calls Try.prog 17 #[.pointer (some ⟨s3, 0, none⟩), .slice none 0 0, .slice (some ⟨wr.heap.size, 0, none⟩) 2 2] (wr.alloc (.cells #[.int .i64 (N1 : Int), .int .i64 (N2 : Int)] 3)) fun e w' => e = .returned (.int .i64 0) ∧ Sat w (SpaceP s3 d ⟨1 - T.slot, T.turn + 1, []⟩ * (Disk d D4 * Emp)) w') := (sw_drop wr.heap.size 2 2 _ [(N1 : Int), (N2 : Int)] HTG.out (by have := HTl.out; omega) HTc.out (by omega) HAt.out h8 rfl rfl (by omega) (fun x hx => by have := HNb.out; simp only [List.mem_cons, List.not_mem_nil, or_false] at hx; rcases hx with rfl | rfl <;> omega) HE4.out).mono fun e w' ⟨h1, h2⟩ => ⟨h1, (h2.up3.right.up3.right)⟩
                clear h8
                go_wp2_with (first
                  | (go_at_call 17; (with_reducible refine HSw.out.mono ?_); rintro e w12 ⟨rfl, hs⟩; have HS12 := Lib.hid hs; clear hs)
                  | (go_at_call 25; (with_reducible refine (HFe.out w12 _ HS12.out).mono ?_); rintro e wx ⟨rfl, rfl⟩)
                  | (go_at_call 32; (with_reducible refine (HFf.out w12 _ HS12.out).mono ?_); rintro e w13 ⟨A5, c5, rfl, hs⟩; have HS13 := Lib.hid hs; clear hs)
                  | (go_at_call 27; (with_reducible refine (num3_any _ _).mono ?_); rintro e wx ⟨rfl, rfl⟩))
                go_roundw
                · exact ⟨i + 1, s3, ⟨1 - T.slot, T.turn + 1, []⟩, D4, by omega, by omega, rfl, by push_cast; rfl, ⟨rfl, ⟨_, _, HG4.out, by have := HTl.out; omega⟩, HC4.out.mono (by omega), HA4.out, HL4.out⟩, HS13.out⟩
                · simp [intOf]; omega
    · by_cases h30 : i < 30
      · have hk3 : (i : Int) < 30 := by omega
        have hk2 : ¬ (i : Int) < ks.length := by omega
        go_wp2_with fail
        go_ret
        exact ⟨rfl, HD.out.2.chg⟩
      · have hk3 : ¬ (i : Int) < 30 := by omega
        by_cases hkl2 : (i : Int) < ks.length
        · go_wp2_with fail
          go_ret
          exact ⟨rfl, HD.out.2.chg⟩
        · go_wp2_with fail
          go_ret
          exact ⟨rfl, HD.out.2.chg⟩
end Go.Proofs.Ytjmapbhgjhlefaa
