/- MemHeights: the walk. -/
import Derived.Test.YtlcifkkgekpicaaMemHt
import Derived.Test.YtlcifkkgekpicaaMemNewest
namespace Go.Proofs.Ytlcifkkgekpicaa
open Go.RowKit
set_option linter.unusedVariables false

theorem puts_take (ps : List PuD) (n : Nat) : (ps.take n).flatMap puV = (ps.flatMap puV).take (n * 5) := by
  induction ps generalizing n with
  | nil => simp
  | cons e ps ih =>
    cases n with
    | zero => simp
    | succ n =>
      rw [List.take_succ_cons, List.flatMap_cons, List.flatMap_cons, ih, List.take_append]
      have : (puV e).length = 5 := rfl
      rw [this, List.take_of_length_le (l := puV e) (by rw [this]; omega), show (n + 1) * 5 - 5 = n * 5 by omega]
theorem PusIn.take {w : World} {A : Option Addr} {c : Nat} {l : List PuD} (h : PusIn w A c l) (n : Nat) : PusIn w A c (l.take n) := by
  obtain ⟨h1, h2, h3, h4, h5⟩ := h
  have := List.length_take_le n l
  have h6 : (l.take n).length ≤ l.length := by rw [List.length_take]; omega
  refine ⟨by omega, h2, ?_, by omega, fun e he => h5 e (List.mem_of_mem_take he)⟩
  rw [puts_take]
  exact h3.take _
/-- The entry that is put: with its own number. -/
def numN (e : En) (i : Nat) : En := ⟨(cutN e).key, (cutN e).value, (i : Int), e.dead⟩
theorem numN_ent {l : List PuD} {i : Nat} (h : i < l.length) : (numN l[i].e i).ent = cutI l i := by unfold cutI; rw [List.getElem?_eq_getElem h]; rfl
/-- Put, of a short entry with its own number. -/
theorem putI {w W : World} {F : SP} (b hr : Nat) (ns : List Nd) (n : Nat) (H : Int) (l : List PuD) (i : Nat) (hi : i < l.length) (h : Sat w (SkipT b hr ns * F) W) (ht : Tab ns n) (hn : n ≤ 1000) (he : EnIn w l[i].e) (hi2 : i ≤ 1000) {ck cv : List UInt8} (hck : ck = l[i].e.key.2.2.take 200) (hcv : cv = l[i].e.value.2.2.take 200) :
    Calls Try.prog 14 #[.pointer (some ⟨b, 0, none⟩), .agg #[.slice l[i].e.key.1 ck.length l[i].e.key.2.1, .slice l[i].e.value.1 cv.length l[i].e.value.2.1, .int .i64 (i : Int), .bool l[i].e.dead], .int .i64 H] W (PutT w F b hr ns n (cutI l i) H) := by
  have h1 := putT_any b hr ns n H (numN l[i].e i) w W F h ht hn (cutN_r (he.r.new h.chg)) (cutN_len l[i].e).1 (cutN_len l[i].e).2 (by show (i : Int) ≤ topSeq; unfold topSeq; omega)
  rw [numN_ent hi] at h1
  subst hck hcv
  exact h1
/-- cut, its bytes by name. -/
theorem cutX {w W : World} {S : SP} (e : En) (h : Sat w S W) (hk : e.key.2.2.length ≤ e.key.2.1) (hv : e.value.2.2.length ≤ e.value.2.1) :
    Calls Try.prog 15 #[.agg #[.slice e.key.1 e.key.2.2.length e.key.2.1, .slice e.value.1 e.value.2.2.length e.value.2.1, .int .i64 e.seq, .bool e.dead]] W fun x w' => (∃ ck cv : List UInt8, x = .returned (.agg #[.slice e.key.1 ck.length e.key.2.1, .slice e.value.1 cv.length e.value.2.1, .int .i64 e.seq, .bool e.dead]) ∧ ck = e.key.2.2.take 200 ∧ cv = e.value.2.2.take 200) ∧ Sat w S w' := by
  refine (cutS e h hk hv).mono ?_
  rintro x w' ⟨rfl, k⟩
  exact ⟨⟨_, _, rfl, rfl, rfl⟩, k⟩
theorem heightS {w W : World} {S : SP} {A : Option Addr} {c : Nat} {l : List Int} (i : Nat) (h : Sat w S W) (hr : l.length ≤ c ∧ c ≤ maxLen ∧ RdV w A (l.map fun n => .int .i64 n) ∧ l.length ≤ 17592186043904 ∧ ∀ n ∈ l, -9223372036854775808 ≤ n ∧ n ≤ 9223372036854775807) (hi : i ≤ 1000) :
    Calls Try.prog 34 #[.slice A l.length c, .int .i64 (i : Int)] W fun e w' => e = .returned (.int .i64 (hOf l i)) ∧ W = w' :=
  (height_any A c l i W (hr.2.2.1.new h.chg) hi hr.1 hr.2.1).mono fun e w' h => ⟨h.1, h.2.symm⟩
theorem getF_any (K : Slc) (seq : Int) (b hr : Nat) (ns : List Nd) (n : Nat) (L : List Ent) (w0 w : World) (F : SP) (hL : fsts ns = L) (hk : Rd w0 K.1 K.2.2) (h : Sat w0 (SkipT b hr ns * F) w) (ht : Tab ns n) (hn : n ≤ 1000) :
    Calls Try.prog 16 #[.pointer (some ⟨b, 0, none⟩), .slice K.1 K.2.2.length K.2.1, .int .i64 seq] w fun x w' => (∃ g : En, x = .returned (.tuple #[.agg #[.slice g.key.1 g.key.2.2.length g.key.2.1, .slice g.value.1 g.value.2.2.length g.value.2.1, .int .i64 g.seq, .bool g.dead], .bool (getL K.2.2 seq L).isSome]) ∧ g.ent = (getL K.2.2 seq L).getD noE ∧ EnR w' g) ∧ Chg No w w' := by
  have h1 := getT_any K seq b hr ns n w0 w F (hk.new h.chg) h ht hn
  rw [get_list, show (absL ns).map (·.1) = L from hL] at h1
  exact h1
theorem allF_any (b hr : Nat) (ns : List Nd) (n : Nat) (L : List Ent) (w0 w : World) (F : SP) (hL : fsts ns = L) (h : Sat w0 (SkipT b hr ns * F) w) (ht : Tab ns n) (hn : n ≤ 1000) :
    Calls Try.prog 17 #[.pointer (some ⟨b, 0, none⟩), .slice none 0 0, .slice none 0 0] w (AllE w L) := by
  have h1 := all_any b hr ns n w0 w F h ht hn
  rw [show (absL ns).map (·.1) = L from hL] at h1
  exact h1
theorem levF_any (i : Nat) (b hr : Nat) (ns : List Nd) (n : Nat) (w0 w : World) (F : SP) (h : Sat w0 (SkipT b hr ns * F) w) (ht : Tab ns n) (hn : n ≤ 1000) :
    Calls Try.prog 30 #[.pointer (some ⟨b, 0, none⟩), .int .i64 (i : Int)] w (AllE w (levM (i : Int) (absL ns))) := by
  refine (level_any (i : Int) b hr ns w (h.view ht.ok) ht.ok (ht.small hn)).mono ?_
  intro x w' hx
  rw [lev_abs ht.ok] at hx
  refine hx.all ?_
  have h1 := ht.len
  unfold levM
  split
  · have := List.length_filter_le (fun p : Pr => decide ((i : Int) < p.2)) (absL ns)
    simp only [List.length_map]
    unfold absL at this ⊢
    simp only [List.length_map] at this
    omega
  · simp
theorem lev0_any (b hr : Nat) (ns : List Nd) (n : Nat) (L : List Ent) (w0 w : World) (F : SP) (hL : fsts ns = L) (h : Sat w0 (SkipT b hr ns * F) w) (ht : Tab ns n) (hn : n ≤ 1000) :
    Calls Try.prog 30 #[.pointer (some ⟨b, 0, none⟩), .int .i64 0] w (AllE w L) := by
  have h1 := levF_any 0 b hr ns n w0 w F h ht hn
  rw [show ((0 : Nat) : Int) = 0 from rfl, lev_zero ht.ok, hL] at h1
  exact h1
theorem fsts_len (ns : List Nd) : (fsts ns).length = ns.length := by unfold fsts absL; simp
theorem fsts_byt (ns : List Nd) : bytN ns = byt (fsts ns) := by
  have : fsts ns = ns.map fun n => n.e.ent := by unfold fsts absL; rw [List.map_map]; rfl
  rw [this]; rfl
theorem levM_len (i : Int) (L : List Pr) : (levM i L).length ≤ L.length := by
  unfold levM
  split
  · have := List.length_filter_le (fun p : Pr => decide (i < p.2)) L
    simpa using this
  · simp
theorem prevL_len (k : Nat) (L : List Pr) : (prevL k L).length ≤ L.length := by
  unfold prevL
  split
  · simp
  · exact levM_len _ _
/-- What holds ahead of a level. -/
structure Bel (w : World) (S : SP) (L : List Ent) (es : List En) (A : Option Addr) (c : Nat) (wr : World) : Prop where
  eq : es.map En.ent = L
  len : es.length ≤ c
  cap : c ≤ maxLen
  rd : RdV wr A (es.flatMap enV)
  r : EnsR wr es
  sat : Sat w S wr
section
variable {w W : World} {S F : SP} {b hr : Nat} {ns : List Nd}
theorem lenT_any (n : Nat) (hn : ns.length = n) (h : Sat w (SkipT b hr ns * F) W) : Calls Try.prog 24 #[.pointer (some ⟨b, 0, none⟩)] W fun x w' => x = .returned (.int .i64 (n : Int)) ∧ W = w' := by
  subst hn
  exact (len_any b hr ns ns.length (bytN ns) w W F h).mono fun e w' h => ⟨h.1, h.2.symm⟩
theorem bytT_any (L : List Ent) (hL : fsts ns = L) (h : Sat w (SkipT b hr ns * F) W) : Calls Try.prog 25 #[.pointer (some ⟨b, 0, none⟩)] W fun x w' => x = .returned (.int .i64 (byt L : Int)) ∧ W = w' := by
  subst hL
  rw [← fsts_byt]
  exact (bytes_any b hr ns ns.length (bytN ns) w W F h).mono fun e w' h => ⟨h.1, h.2.symm⟩
theorem sameS (x y : En) (B : Bool) (hB : eqE x.ent y.ent = B) (h : Sat w S W) (hx : EnR W x) (hy : EnR W y) : Calls Try.prog 18 #[.agg #[.slice x.key.1 x.key.2.2.length x.key.2.1, .slice x.value.1 x.value.2.2.length x.value.2.1, .int .i64 x.seq, .bool x.dead], .agg #[.slice y.key.1 y.key.2.2.length y.key.2.1, .slice y.value.1 y.value.2.2.length y.value.2.1, .int .i64 y.seq, .bool y.dead]] W
    fun e w' => e = .returned (.bool B) ∧ Sat w S w' ∧ Chg No W w' := by
  refine (eqE_any x y W hx hy).mono ?_
  rintro e w' ⟨rfl, k⟩
  exact ⟨by rw [hB], h.new k, k⟩
theorem alikeS (A B : Option Addr) (c d : Nat) (es fs : List En) (T : Bool) (hT : alikeB (es.map En.ent) (fs.map En.ent) = T) (hs : Sat w S W) (h : RdV W A (es.flatMap enV)) (hr : EnsR W es) (k : RdV W B (fs.flatMap enV)) (kr : EnsR W fs) (hc : es.length ≤ c) (hm : c ≤ maxLen) (hd : fs.length ≤ d) (hn : d ≤ maxLen) :
    Calls Try.prog 28 #[.slice A es.length c, .slice B fs.length d] W fun e w' => e = .returned (.bool T) ∧ Sat w S w' := by
  refine (alike_any A B c d es fs W h hr k kr hc hm hd hn).mono ?_
  rintro e w' ⟨rfl, k⟩
  exact ⟨by rw [hT], hs.new k⟩
end
set_option maxRecDepth 100000 in
set_option maxHeartbeats 4000000 in
theorem memHeights_walk (A : Option Addr) (cap : Nat) (l0 : List PuD) (A1 : Option Addr) (c1 : Nat) (l1 : List Int) (A2 : Option Addr) (c2 : Nat) (l2 : List Int) (KA : Option Addr) (kc : Nat) (kl : List UInt8) (seq : Int) (w : World) (hl : PusIn w A cap l0)
    (ho : l1.length ≤ c1 ∧ c1 ≤ maxLen ∧ RdV w A1 (l1.map fun n => .int .i64 n) ∧ l1.length ≤ 17592186043904 ∧ ∀ n ∈ l1, -9223372036854775808 ≤ n ∧ n ≤ 9223372036854775807)
    (ht : l2.length ≤ c2 ∧ c2 ≤ maxLen ∧ RdV w A2 (l2.map fun n => .int .i64 n) ∧ l2.length ≤ 17592186043904 ∧ ∀ n ∈ l2, -9223372036854775808 ≤ n ∧ n ≤ 9223372036854775807)
    (hk : kl.length ≤ kc ∧ kc ≤ maxLen ∧ Rd w KA kl ∧ kl.length ≤ 140737488351232 ∧ (KA = none → kc = 0)) (hsq : -9223372036854775808 ≤ seq ∧ seq ≤ 9223372036854775807) :
    Calls Try.prog 7 #[.slice A l0.length cap, .slice A1 l1.length c1, .slice A2 l2.length c2, .slice KA kl.length kc, .int .i64 seq] w (Asked true w) := by
  have HL0 := Lib.hid hl
  have HO := Lib.hid ho
  have HT := Lib.hid ht
  have HK := Lib.hid hk
  have hc1 := hl.1
  have hc2 := hl.2.1
  unfold maxLen at hc2
  clear hl ho ht hk hsq
  have HW := Lib.hid (Sat.start w)
  go_enter Try.func7, Try.ntmps7
  go_upto_if 40 with (first
    | (go_at_call 13; (with_reducible refine (newT_any w _ _ HS1.out).mono ?_); rintro x w2 ⟨b2, hr2, rfl, hs2⟩; have HS2 := Lib.hid hs2; clear hs2)
    | (go_at_call 13; refine (newT_any w _ _ HW.out).mono ?_; rintro x w1 ⟨b1, hr1, rfl, hs1⟩; have HS1 := Lib.hid hs1; clear hs1)
    | (go_at_call 12; refine (mwakes_any _).mono ?_; rintro x w3 ⟨rfl, k3⟩; have HS3 := Lib.hid (HS2.out.new k3).up2; clear k3))
  go_cut [0] (fun s wx => ∃ ls : List PuD, s = .slice A ls.length cap ∧ ls.length ≤ 60 ∧ Hid (wx = w3 ∧ PusIn w A cap ls))
  case first =>
    by_cases h60 : 60 < l0.length
    · have hcap : (60 : Int) ≤ cap := by omega
      go_wp2_with fail
      go_meet
      have hl60 : (l0.take 60).length = 60 := by rw [List.length_take]; omega
      exact ⟨l0.take 60, by rw [hl60], by omega, rfl, HL0.out.take 60⟩
    · go_wp2_with fail
      go_meet
      exact ⟨l0, rfl, by omega, rfl, HL0.out⟩
  case rest =>
    obtain ⟨l, hs, hl60, hcut⟩ := hcut
    subst hs
    have hw := hcut.out.1
    subst hw
    have HP := Lib.hid hcut.out.2
    have hlc := hcut.out.2.1
    clear hcut HL0 hc1 HS1 HS2
    go_wp2_with fail
    go_loopw [13] (fun i wr => ∃ (k : Nat) (ns : List Nd), k ≤ l.length ∧ i = .int .i64 k ∧ Hid (Tab ns k ∧ Holds l 0 k ns ∧ Sat w (SkipT b1 hr1 ns * (SkipT b2 hr2 [] * Emp)) wr)) (fun i _ => l.length - (intOf i).toNat)
    case atStart => exact ⟨0, [], by omega, rfl, tab_nil 0, holds_none l 0, HS3.out⟩
    case round =>
      obtain ⟨k, ns, hkl, rfl, HD⟩ := hrel
      by_cases hlt : k < l.length
      · obtain ⟨lb, lo, rfl, hq⟩ := puts_at HP.out.2.2.1 (by omega)
        obtain ⟨z0, z1, z2, z3, z4⟩ := hq k hlt
        have a0 := HD.out.2.2.chg.cell z0 id; have a1 := HD.out.2.2.chg.cell z1 id; have a2 := HD.out.2.2.chg.cell z2 id; have a3 := HD.out.2.2.chg.cell z3 id
        unfold slv' at a0 a1
        clear hq z0 z1 z2 z3 z4
        have HE := Lib.hid (HP.out.2.2.2.2 l[k] (List.getElem_mem _)).1
        have hkk : k ≤ 1000 := by omega
        go_upto_region 11 with (go_at_call 15; (with_reducible refine (cutX l[k].e HD.out.2.2 HE.out.k2 HE.out.v2).mono ?_); rintro x w5 ⟨⟨ck, cv, rfl, hck, hcv⟩, hs5⟩; have HS6 := Lib.hid (hs5.allocPt 24 #[.slice l[k].e.key.1 ck.length l[k].e.key.2.1, .slice l[k].e.value.1 cv.length l[k].e.value.2.1, .int .i64 k, .bool l[k].e.dead]); have HCk := Lib.hid hck; have HCv := Lib.hid hcv; clear hs5 hck hcv)
        obtain ⟨w6, hw6⟩ : ∃ w6, w6 = w5.alloc (.cells #[.slice l[k].e.key.1 ck.length l[k].e.key.2.1, .slice l[k].e.value.1 cv.length l[k].e.value.2.1, .int .i64 k, .bool l[k].e.dead] 24) := ⟨_, rfl⟩
        rw [← hw6] at HS6
        rw [← hw6]
        clear hw6 a0 a1 a2 a3
        generalize w5.heap.size = G at *
        have g0 := HS6.out.cell 0; have g1 := HS6.out.cell 1; have g2 := HS6.out.cell 2; have g3 := HS6.out.cell 3
        go_region_law (first
          | (go_simp; go_at_call 34; (with_reducible refine (heightS k HS6.out.drew HO.out hkk).mono ?_); rintro x w7 ⟨rfl, rfl⟩)
          | (go_simp; go_at_call 14; (with_reducible refine (putI b1 hr1 ns k (hOf l1 k) l k hlt HS6.out.drew.up2 HD.out.1 hkk HE.out hkk HCk.out HCv.out).mono ?_); rintro x w7 ⟨ns', rfl, ht7, ha7, hs7⟩; have HT7 := Lib.hid ht7; have HA7 := Lib.hid ha7; have HS7 := Lib.hid hs7; clear ht7 ha7 hs7))
        all_goals
          go_wp2_with fail
          go_roundw
          · exact ⟨k + 1, ns', by omega, by push_cast; rfl, HT7.out, holds_up HD.out.2.1 hlt (Nat.zero_le _) HA7.out, HS7.out.drop2⟩
          · simp [intOf]; omega
      · have hke : k = l.length := by omega
        subst hke
        obtain ⟨ns1, hns1⟩ : ∃ ns1, ns1 = ns := ⟨_, rfl⟩
        rw [← hns1] at HD
        have HT1 := Lib.hid HD.out.1
        have HH1 := Lib.hid HD.out.2.1
        have HS4 := Lib.hid HD.out.2.2.up2
        clear hns1 HD hlt
        go_wp2_with fail
        go_loopw [15] (fun i wr => ∃ (j : Nat) (ms : List Nd), j ≤ l.length ∧ i = .int .i64 ((j : Int) - 1) ∧ Hid (Tab ms (l.length - j) ∧ Holds l j l.length ms ∧ Sat w (SkipT b2 hr2 ms * (SkipT b1 hr1 ns1 * Emp)) wr)) (fun i _ => (intOf i + 1).toNat)
        case atStart => exact ⟨l.length, [], by omega, rfl, tab_nil _, holds_none l l.length, HS4.out⟩
        case round =>
          obtain ⟨j, ms, hjl, rfl, HD⟩ := hrel
          rcases j with _ | q
          · rw [show (((0 : Nat) : Int) - 1) = -1 from rfl]
            obtain ⟨L, hL⟩ : ∃ L, fsts ns1 = L := ⟨_, rfl⟩
            have hLb : fsts ms = L := by rw [← hL]; exact holds_eq HD.out.2.1 HH1.out HD.out.1.ok HT1.out.ok
            have HLa := Lib.hid hL
            have HLb := Lib.hid hLb
            have HTb := Lib.hid HD.out.1
            have HS5 := Lib.hid HD.out.2.2.up2
            have HLn : Hid (ns1.length = l.length) := by have := HH1.out.1; unfold Hid; omega
            have HKr := Lib.hid HK.out.2.2.1
            have HAl : Hid (∀ es fs : List En, es.map En.ent = L → fs.map En.ent = L → alikeB (es.map En.ent) (fs.map En.ent) = true) := fun es fs h1 h2 => (alike_iff _ _).2 (by rw [h1, h2])
            have h1000 : l.length ≤ 1000 := by omega
            have h1001 : l.length - 0 ≤ 1000 := by omega
            clear hL hLb HD hjl
            go_upto_region 20 with (first
              | (go_at_call 16; (with_reducible refine (getF_any (KA, kc, kl) seq b2 hr2 ms (l.length - 0) L w _ _ HLb.out HKr.out (HS6.out.allocPt 24 (enC g1)).up3 HTb.out h1001).mono ?_); rintro x w7 ⟨⟨g2, rfl, hg2, hgr2⟩, k7⟩; have HG2 := Lib.hid hg2; have HGR2 := Lib.hid hgr2; have HGR1b := Lib.hid ((HGR1.out.new ((Chg.refl No w6).alloc (.cells (enC g1) 24))).new k7); have HS7 := Lib.hid (((HS6.out.allocPt 24 (enC g1)).new k7).allocPt 24 (enC g2)); clear hg2 hgr2 k7)
              | (go_at_call 16; (with_reducible refine (getF_any (KA, kc, kl) seq b1 hr1 ns1 l.length L w _ _ HLa.out HKr.out HS5.out HT1.out h1000).mono ?_); rintro x w6 ⟨⟨g1, rfl, hg1, hgr1⟩, k6⟩; have HG1 := Lib.hid hg1; have HGR1 := Lib.hid hgr1; have HS6 := Lib.hid (HS5.out.new k6); clear hg1 hgr1 k6))
            have HE12 : Hid (eqE g1.ent g2.ent = true) := by unfold Hid; rw [HG1.out, HG2.out]; exact (eqE_iff _ _).2 rfl
            have HR1 := Lib.hid (HGR1b.out.new ((Chg.refl No w7).alloc (.cells (enC g2) 24)))
            have HR2 := Lib.hid (HGR2.out.new ((Chg.refl No w7).alloc (.cells (enC g2) 24)))
            unfold enC at HS7
            obtain ⟨w8, hw8⟩ : ∃ w8, w8 = w7.alloc (.cells #[.slice g2.key.1 g2.key.2.2.length g2.key.2.1, .slice g2.value.1 g2.value.2.2.length g2.value.2.1, .int .i64 g2.seq, .bool g2.dead] 24) := ⟨_, rfl⟩
            unfold enC at HR1 HR2
            rw [← hw8] at HS7 HR1 HR2
            rw [← hw8]
            clear hw8
            generalize w6.heap.size = G1 at *
            generalize w7.heap.size = G2 at *
            have c0 := HS7.out.cell 0; have c1 := HS7.out.cell 1; have c2 := HS7.out.cell 2; have c3 := HS7.out.cell 3
            have d0 := HS7.out.up2.cell 0; have d1 := HS7.out.up2.cell 1; have d2 := HS7.out.up2.cell 2; have d3 := HS7.out.up2.cell 3
            generalize (getL kl seq L).isSome = ok at *
            have HSab : Hid (Sat w (SkipT b1 hr1 ns1 * (SkipT b2 hr2 ms * Emp)) w8) := HS7.out.right.right
            go_upto_region 22 with (first
              | (go_at_call 18; (with_reducible refine (sameS g1 g2 true HE12.out HSab.out HR1.out HR2.out).mono ?_); rintro x w9 ⟨rfl, hs9, k9⟩; have HS9 := Lib.hid hs9; clear hs9 k9)
              | (go_at_call 17; (with_reducible refine (allF_any b1 hr1 ns1 l.length L w _ _ HLa.out HS9.out HT1.out h1000).mono ?_); rintro x w10 ⟨es, EA, ec, rfl, hes, hec, hem, her, hee, k10⟩; have HES := Lib.hid hes; have HEC := Lib.hid hec; have HEM := Lib.hid hem; have HER := Lib.hid her; have HEE := Lib.hid hee; have HS10 := Lib.hid (HS9.out.new k10); clear hes hec hem her hee k10)
              | (go_at_call 17; (with_reducible refine (allF_any b2 hr2 ms (l.length - 0) L w _ _ HLb.out HS10.out.up2 HTb.out h1001).mono ?_); rintro x w11 ⟨fs, FA, fc, rfl, hfs, hfc, hfm, hfr, hfe, k11⟩; have HFS := Lib.hid hfs; have HFC := Lib.hid hfc; have HFM := Lib.hid hfm; have HFR := Lib.hid hfr; have HFE := Lib.hid hfe; have HER2 := Lib.hid (HER.out.new k11); have HEE2 := Lib.hid (HEE.out.new k11); have HS11 := Lib.hid (HS10.out.new k11); clear hfs hfc hfm hfr hfe k11)
              | (go_at_call 28; (with_reducible refine (alikeS EA FA ec fc es fs true (HAl.out es fs HES.out HFS.out) HS11.out HER2.out HEE2.out HFR.out HFE.out HEC.out HEM.out HFC.out HFM.out).mono ?_); rintro x w12 ⟨rfl, hs12⟩; have HS12 := Lib.hid hs12; clear hs12)
              | (go_at_call 24; (with_reducible refine (lenT_any l.length HLn.out HS12.out).mono ?_); rintro x w13 ⟨rfl, rfl⟩)
              | (go_at_call 25; (with_reducible refine (bytT_any L HLa.out HS12.out).mono ?_); rintro x w13 ⟨rfl, rfl⟩)
              | (go_at_call 25; (with_reducible refine (bytT_any L HLb.out HS12.out.up2).mono ?_); rintro x w13 ⟨rfl, rfl⟩))
            clear c0 c1 c2 c3 d0 d1 d2 d3 HS7 HSab
            have HSx := Lib.hid HS12.out
            have HN60 : Hid (∀ k, (prevL k (absL ns1)).length ≤ 60 ∧ (levM (k : Int) (absL ns1)).length ≤ 60) := by
              intro k
              have h1 := prevL_len k (absL ns1)
              have h2 := levM_len (k : Int) (absL ns1)
              have h3 : (absL ns1).length = ns1.length := by unfold absL; simp
              have h4 := HLn.out
              omega
            go_wp2_with (go_at_call 17; (with_reducible refine (allF_any b1 hr1 ns1 l.length L w _ _ HLa.out HSx.out HT1.out h1000).mono ?_); rintro x w14 ⟨gs, GA, gc, rfl, hgs, hgc, hgm, hgr, hge, k14⟩; have HB0 : Hid (Bel w (SkipT b1 hr1 ns1 * (SkipT b2 hr2 ms * Emp)) (prevL 0 (absL ns1)) gs GA gc w14) := ⟨by rw [hgs, ← HLa.out]; rfl, hgc, hgm, hgr, hge, HSx.out.new k14⟩; clear hgs hgc hgm hgr hge k14)
            go_loopw [21, 22] (fun below i wr => ∃ (k : Nat) (es : List En) (EA : Option Addr) (ec : Nat), k ≤ 8 ∧ i = .int .i64 k ∧ below = .slice EA es.length ec ∧ Hid (Bel w (SkipT b1 hr1 ns1 * (SkipT b2 hr2 ms * Emp)) (prevL k (absL ns1)) es EA ec wr)) (fun _ i _ => 8 - (intOf i).toNat)
            case atStart => exact ⟨0, gs, GA, gc, by omega, rfl, rfl, HB0.out⟩
            case round =>
              obtain ⟨k, es, EA, ec, hk8, rfl, rfl, HBl⟩ := hrel
              by_cases hlt : k < 8
              · have he60 : es.length ≤ 60 := by have h1 := (HN60.out k).1; have h2 := congrArg List.length HBl.out.eq; rw [List.length_map] at h2; omega
                go_upto_region 28 with (go_at_call 30; (with_reducible refine (levF_any k b1 hr1 ns1 l.length w _ _ HBl.out.sat HT1.out h1000).mono ?_); rintro x w15 ⟨ds, DA, dc, rfl, hds, hdc, hdm, hdr, hde, k15⟩; have HDs := Lib.hid hds; have HDc := Lib.hid hdc; have HDm := Lib.hid hdm; have HDr := Lib.hid hdr; have HDe := Lib.hid hde; have HEr := Lib.hid (HBl.out.rd.new k15); have HEe := Lib.hid (HBl.out.r.new k15); have HSy := Lib.hid (HBl.out.sat.new k15); clear hds hdc hdm hdr hde k15)
                have hd60 : ds.length ≤ 60 := by have h1 := (HN60.out k).2; have h2 := congrArg List.length HDs.out; rw [List.length_map] at h2; omega
                have HSub : Hid (((ds.map En.ent).drop 0).Sublist ((es.map En.ent).drop 0)) := by
                  unfold Hid
                  rw [List.drop_zero, List.drop_zero, HDs.out, HBl.out.eq]
                  exact lev_sub k hlt _
                go_wp2_with fail
                go_loopw [24, 25] (fun kk jj wr => ∃ q j : Nat, q ≤ es.length ∧ j ≤ ds.length ∧ kk = .int .i64 q ∧ jj = .int .i64 j ∧ Hid (Chg No w15 wr ∧ ((ds.map En.ent).drop j).Sublist ((es.map En.ent).drop q))) (fun _ jj _ => ds.length - (intOf jj).toNat)
                case atStart => exact ⟨0, 0, by omega, by omega, rfl, rfl, Chg.refl _ _, HSub.out⟩
                case round =>
                  obtain ⟨q0, j, hq0, hj, rfl, rfl, HIn0⟩ := hrel
                  by_cases hjd : j < ds.length
                  · have hjd' : j < (ds.map En.ent).length := by simpa using hjd
                    go_wp2_with fail
                    go_loopw [24] (fun kk wr => ∃ q : Nat, q ≤ es.length ∧ kk = .int .i64 q ∧ Hid (Chg No w15 wr ∧ ((ds.map En.ent).drop j).Sublist ((es.map En.ent).drop q))) (fun kk _ => es.length - (intOf kk).toNat)
                    case atStart => exact ⟨q0, hq0, rfl, HIn0.out⟩
                    case round =>
                      obtain ⟨q, hqe, rfl, HIn⟩ := hrel
                      have hql' := sub_some HIn.out.2 hjd'
                      have hql : q < es.length := by simpa using hql'
                      obtain ⟨eb, eo, rfl, hqq⟩ := ents_at HEr.out (by omega)
                      obtain ⟨z0, z1, z2, z3⟩ := hqq q hql
                      obtain ⟨db, dO, rfl, hdd⟩ := ents_at HDr.out (by omega)
                      obtain ⟨y0, y1, y2, y3⟩ := hdd j hjd
                      have a0 := HIn.out.1.cell z0 id; have a1 := HIn.out.1.cell z1 id; have a2 := HIn.out.1.cell z2 id; have a3 := HIn.out.1.cell z3 id
                      have b0 := HIn.out.1.cell y0 id; have b1' := HIn.out.1.cell y1 id; have b2' := HIn.out.1.cell y2 id; have b3 := HIn.out.1.cell y3 id
                      unfold slv' at a0 a1 b0 b1'
                      have HEq : Hid (EnR wr es[q]) := (HEe.out _ (List.getElem_mem hql)).new HIn.out.1
                      have HDj : Hid (EnR wr ds[j]) := (HDe.out _ (List.getElem_mem hjd)).new HIn.out.1
                      clear hqq hdd z0 z1 z2 z3 y0 y1 y2 y3 hql' hjd'
                      go_wp2_with fail
                      refine wp_region_held_drew (S := fun w' => (w'.cell? ⟨eb, eo + q * 4, none⟩ = some (.slice es[q].key.1 es[q].key.2.2.length es[q].key.2.1) ∧ w'.cell? ⟨eb, eo + q * 4 + 1, none⟩ = some (.slice es[q].value.1 es[q].value.2.2.length es[q].value.2.1) ∧ w'.cell? ⟨eb, eo + q * 4 + 2, none⟩ = some (.int .i64 es[q].seq) ∧ w'.cell? ⟨eb, eo + q * 4 + 3, none⟩ = some (.bool es[q].dead)) ∧ w'.cell? ⟨db, dO + j * 4, none⟩ = some (.slice ds[j].key.1 ds[j].key.2.2.length ds[j].key.2.1) ∧ w'.cell? ⟨db, dO + j * 4 + 1, none⟩ = some (.slice ds[j].value.1 ds[j].value.2.2.length ds[j].value.2.1) ∧ w'.cell? ⟨db, dO + j * 4 + 2, none⟩ = some (.int .i64 ds[j].seq) ∧ w'.cell? ⟨db, dO + j * 4 + 3, none⟩ = some (.bool ds[j].dead)) (by kernel_rfl) ⟨⟨a0, a1, a2, a3⟩, b0, b1', b2', b3⟩ ?_
                      intro hS0
                      refine rgn_take (i := 0) (v := ?rv1) rfl (by kernel_rfl) (by kernel_rfl) (by kernel_rfl) (fun _ _ _ h => h) (by rfl) ?rh1 (by assumption) ?rr1
                      case rh1 => (intro w hSw; (try dsimp only at hSw); go_simp; try with_reducible rfl)
                      simp only [Act.put, List.setIfInBounds_toArray, List.set_cons_zero, List.set_cons_succ]
                      refine rgn_take (i := 1) (v := ?rv2) rfl (by kernel_rfl) (by kernel_rfl) (by kernel_rfl) (fun _ _ _ h => h) (by rfl) ?rh2 (by assumption) ?rr2
                      case rh2 => (intro w hSw; (try dsimp only at hSw); go_simp; try with_reducible rfl)
                      simp only [Act.put, List.setIfInBounds_toArray, List.set_cons_zero, List.set_cons_succ]
                      refine rgn_take (i := 2) (v := ?rv3) rfl (by kernel_rfl) (by kernel_rfl) (by kernel_rfl) (fun _ _ _ h => h) (by rfl) ?rh3 (by assumption) ?rr3
                      case rh3 => (intro w hSw; (try dsimp only at hSw); go_simp; try with_reducible rfl)
                      simp only [Act.put, List.setIfInBounds_toArray, List.set_cons_zero, List.set_cons_succ]
                      refine rgn_take (i := 3) (v := ?rv4) rfl (by kernel_rfl) (by kernel_rfl) (by kernel_rfl) (fun _ _ _ h => h) (by rfl) ?rh4 (by assumption) ?rr4
                      case rh4 => (intro w hSw; (try dsimp only at hSw); go_simp; try with_reducible rfl)
                      simp only [Act.put, List.setIfInBounds_toArray, List.set_cons_zero, List.set_cons_succ]
                      refine rgn_take (i := 4) (v := ?rv5) rfl (by kernel_rfl) (by kernel_rfl) (by kernel_rfl) (fun _ _ _ h => h) (by rfl) ?rh5 (by assumption) ?rr5
                      case rh5 => (intro w hSw; (try dsimp only at hSw); go_simp; try with_reducible rfl)
                      simp only [Act.put, List.setIfInBounds_toArray, List.set_cons_zero, List.set_cons_succ]
                      refine rgn_take (i := 5) (v := ?rv6) rfl (by kernel_rfl) (by kernel_rfl) (by kernel_rfl) (fun _ _ _ h => h) (by rfl) ?rh6 (by assumption) ?rr6
                      case rh6 => (intro w hSw; (try dsimp only at hSw); go_simp; try with_reducible rfl)
                      simp only [Act.put, List.setIfInBounds_toArray, List.set_cons_zero, List.set_cons_succ]
                      refine rgn_take (i := 6) (v := ?rv7) rfl (by kernel_rfl) (by kernel_rfl) (by kernel_rfl) (fun _ _ _ h => h) (by rfl) ?rh7 (by assumption) ?rr7
                      case rh7 => (intro w hSw; (try dsimp only at hSw); go_simp; try with_reducible rfl)
                      simp only [Act.put, List.setIfInBounds_toArray, List.set_cons_zero, List.set_cons_succ]
                      refine rgn_take (i := 7) (v := ?rv8) rfl (by kernel_rfl) (by kernel_rfl) (by kernel_rfl) (fun _ _ _ h => h) (by rfl) ?rh8 (by assumption) ?rr8
                      case rh8 => (intro w hSw; (try dsimp only at hSw); go_simp; try with_reducible rfl)
                      simp only [Act.put, List.setIfInBounds_toArray, List.set_cons_zero, List.set_cons_succ]
                      refine rgn_take (i := 8) (v := ?rv9) rfl (by kernel_rfl) (by kernel_rfl) (by kernel_rfl) (fun _ _ _ h => h) (by rfl) ?rh9 (by assumption) ?rr9
                      case rh9 => (intro w hSw; (try dsimp only at hSw); go_simp; try with_reducible rfl)
                      simp only [Act.put, List.setIfInBounds_toArray, List.set_cons_zero, List.set_cons_succ]
                      refine rgn_take (i := 9) (v := ?rv10) rfl (by kernel_rfl) (by kernel_rfl) (by kernel_rfl) (fun _ _ _ h => h) (by rfl) ?rh10 (by assumption) ?rr10
                      case rh10 => (intro w hSw; (try dsimp only at hSw); go_simp; try with_reducible rfl)
                      simp only [Act.put, List.setIfInBounds_toArray, List.set_cons_zero, List.set_cons_succ]
                      refine rgn_take (i := 10) (v := ?rv11) rfl (by kernel_rfl) (by kernel_rfl) (by kernel_rfl) (fun _ _ _ h => h) (by rfl) ?rh11 (by assumption) ?rr11
                      case rh11 => (intro w hSw; (try dsimp only at hSw); go_simp; try with_reducible rfl)
                      simp only [Act.put, List.setIfInBounds_toArray, List.set_cons_zero, List.set_cons_succ]
                      refine rgn_take (i := 11) (v := ?rv12) rfl (by kernel_rfl) (by kernel_rfl) (by kernel_rfl) (fun _ _ _ h => h) (by rfl) ?rh12 (by assumption) ?rr12
                      case rh12 => (intro w hSw; (try dsimp only at hSw); go_simp; try with_reducible rfl)
                      simp only [Act.put, List.setIfInBounds_toArray, List.set_cons_zero, List.set_cons_succ]
                      refine rgn_take (i := 12) (v := ?rv13) rfl (by kernel_rfl) (by kernel_rfl) (by kernel_rfl) (fun _ _ _ h => h) (by rfl) ?rh13 (by assumption) ?rr13
                      case rh13 => (intro w hSw; (try dsimp only at hSw); go_simp; try with_reducible rfl)
                      simp only [Act.put, List.setIfInBounds_toArray, List.set_cons_zero, List.set_cons_succ]
                      refine rgn_call (i := 13) rfl (by kernel_rfl) (fun K hK => ?_)
                      go_simp
                      go_at_call 18; refine (eqE_any es[q] ds[j] _ (HEq.out.new (Chg.refl No _).drew) (HDj.out.new (Chg.refl No _).drew)).mono ?_; rintro x w9 ⟨rfl, k9⟩; have HK9 := Lib.hid (HIn.out.1.drew.tr k9); have hk9 := Lib.hid ((Chg.refl No wr).drew.tr k9); clear k9
                      refine hK.out _ _ ⟨⟨hk9.out.cell a0 id, hk9.out.cell a1 id, hk9.out.cell a2 id, hk9.out.cell a3 id⟩, hk9.out.cell b0 id, hk9.out.cell b1' id, hk9.out.cell b2' id, hk9.out.cell b3 id⟩ (fun hS0 => ?_)
                      clear hK K
                      try simp only [Act.put, List.setIfInBounds_toArray, List.set_cons_zero, List.set_cons_succ]
                      refine rgn_take (i := 14) (v := ?rv15) rfl (by kernel_rfl) (by kernel_rfl) (by kernel_rfl) (fun _ _ _ h => h) (by rfl) ?rh15 (by assumption) ?rr15
                      case rh15 => (intro w hSw; (try dsimp only at hSw); go_simp; try with_reducible rfl)
                      simp only [Act.put, List.setIfInBounds_toArray, List.set_cons_zero, List.set_cons_succ]
                      refine rgn_take (i := 15) (v := ?rv16) rfl (by kernel_rfl) (by kernel_rfl) (by kernel_rfl) (fun _ _ _ h => h) (by rfl) ?rh16 (by assumption) ?rr16
                      case rh16 => (intro w hSw; (try dsimp only at hSw); go_simp; try with_reducible rfl)
                      simp only [Act.put, List.setIfInBounds_toArray, List.set_cons_zero, List.set_cons_succ]
                      refine wpAnyH_done (by kernel_rfl) ?_ _

                      cases hE : eqE es[q].ent ds[j].ent with
                      | false =>
                        have HNx : Hid (((ds.map En.ent).drop j).Sublist ((es.map En.ent).drop (q + 1))) := sub_skip HIn.out.2 (by simpa using hjd) (by simpa using hql) (by rw [List.getElem_map, List.getElem_map]; intro e; rw [(eqE_iff _ _).2 e] at hE; cases hE)
                        clear hE
                        go_wp2_with fail
                        go_roundw
                        · exact ⟨q + 1, by omega, by push_cast; rfl, HK9.out, HNx.out⟩
                        · simp [intOf]; omega
                      | true =>
                        have HNx : Hid (((ds.map En.ent).drop (j + 1)).Sublist ((es.map En.ent).drop (q + 1))) := sub_both HIn.out.2 (by simpa using hjd) (by simpa using hql) (by rw [List.getElem_map, List.getElem_map]; exact (eqE_iff _ _).1 hE)
                        have hne : ((q : Int) == es.length) = false := by simp; omega
                        clear hE
                        go_wp2_with fail
                        go_roundw
                        · exact ⟨q + 1, j + 1, by omega, by omega, by push_cast; rfl, by push_cast; rfl, HK9.out, HNx.out⟩
                        · simp [intOf]; omega
                  · go_wp2_with fail
                    go_roundw
                    · exact ⟨k + 1, ds, DA, dc, by omega, by push_cast; rfl, rfl, by rw [HDs.out]; unfold prevL; rw [if_neg (by omega)]; congr 1; omega, HDc.out, HDm.out, HDr.out.new HIn0.out.1, fun e he => (HDe.out e he).new HIn0.out.1, HSy.out.new HIn0.out.1⟩
                    · simp [intOf]; omega
              · have HSo : Hid (∀ es : List En, es.map En.ent = L → sortedB (es.map En.ent) = true) := fun es h => by rw [h, ← HLa.out]; exact sortedB_of (fsts_sort HT1.out.ok)
                go_wp2_with (first
                  | (go_at_call 17; (with_reducible refine (allF_any b1 hr1 ns1 l.length L w _ _ HLa.out HS22.out HT1.out h1000).mono ?_); rintro x w23 ⟨fs3, F3, f3, rfl, hs3, hc3, hm3, hr3, he3, k3⟩; have H3 := Lib.hid hs3; have HC3 := Lib.hid hc3; have HM3 := Lib.hid hm3; have HR3 := Lib.hid hr3; have HE3 := Lib.hid he3; have HR2' := Lib.hid (HR2b.out.new k3); have HE2' := Lib.hid (HE2.out.new k3); have HS23 := Lib.hid (HS22.out.new k3); clear hs3 hc3 hm3 hr3 he3 k3)
                  | (go_at_call 17; (with_reducible refine (allF_any b1 hr1 ns1 l.length L w _ _ HLa.out HBl.out.sat HT1.out h1000).mono ?_); rintro x w20 ⟨fs1, F1, f1, rfl, hs1, hc1', hm1, hr1', he1, k1⟩; have H1 := Lib.hid hs1; have HC1 := Lib.hid hc1'; have HM1 := Lib.hid hm1; have HR1' := Lib.hid hr1'; have HE1 := Lib.hid he1; have HS20 := Lib.hid (HBl.out.sat.new k1); clear hs1 hc1' hm1 hr1' he1 k1)
                  | (go_at_call 10; refine (sorted_any F1 f1 fs1 _ HR1'.out HE1.out HC1.out HM1.out).mono ?_; rintro x w21 ⟨rfl, k21⟩; rw [HSo.out fs1 H1.out]; have HS21 := Lib.hid (HS20.out.new k21); clear k21)
                  | (go_at_call 30; (with_reducible refine (lev0_any b1 hr1 ns1 l.length L w _ _ HLa.out HS21.out HT1.out h1000).mono ?_); rintro x w22 ⟨fs2, F2, f2, rfl, hs2, hc2', hm2, hr2', he2, k2⟩; have H2 := Lib.hid hs2; have HC2 := Lib.hid hc2'; have HM2 := Lib.hid hm2; have HR2b := Lib.hid hr2'; have HE2 := Lib.hid he2; have HS22 := Lib.hid (HS21.out.new k2); clear hs2 hc2' hm2 hr2' he2 k2)
                  | (go_at_call 28; (with_reducible refine (alikeS F2 F3 f2 f3 fs2 fs3 true (HAl.out fs2 fs3 H2.out H3.out) HS23.out HR2'.out HE2'.out HR3.out HE3.out HC2.out HM2.out HC3.out HM3.out).mono ?_); rintro x w24 ⟨rfl, hs24⟩; have HS24 := Lib.hid hs24; clear hs24))
                go_ret
                exact ⟨rfl, HS24.out.chg⟩
          · have hlt : q < l.length := by omega
            have hq1 : (((q + 1 : Nat) : Int) - 1) = q := by omega
            rw [hq1]
            clear hq1
            obtain ⟨lb, lo, rfl, hq⟩ := puts_at HP.out.2.2.1 (by omega)
            obtain ⟨z0, z1, z2, z3, z4⟩ := hq q hlt
            have a0 := HD.out.2.2.chg.cell z0 id; have a1 := HD.out.2.2.chg.cell z1 id; have a2 := HD.out.2.2.chg.cell z2 id; have a3 := HD.out.2.2.chg.cell z3 id
            unfold slv' at a0 a1
            clear hq z0 z1 z2 z3 z4
            have HE := Lib.hid (HP.out.2.2.2.2 l[q] (List.getElem_mem _)).1
            have hqq : q ≤ 1000 := by omega
            go_upto_region 17 with (go_at_call 15; (with_reducible refine (cutX l[q].e HD.out.2.2 HE.out.k2 HE.out.v2).mono ?_); rintro x w5 ⟨⟨ck, cv, rfl, hck, hcv⟩, hs5⟩; have HS6 := Lib.hid (hs5.allocPt 24 #[.slice l[q].e.key.1 ck.length l[q].e.key.2.1, .slice l[q].e.value.1 cv.length l[q].e.value.2.1, .int .i64 q, .bool l[q].e.dead]); have HCk := Lib.hid hck; have HCv := Lib.hid hcv; clear hs5 hck hcv)
            obtain ⟨w6, hw6⟩ : ∃ w6, w6 = w5.alloc (.cells #[.slice l[q].e.key.1 ck.length l[q].e.key.2.1, .slice l[q].e.value.1 cv.length l[q].e.value.2.1, .int .i64 q, .bool l[q].e.dead] 24) := ⟨_, rfl⟩
            rw [← hw6] at HS6
            rw [← hw6]
            clear hw6 a0 a1 a2 a3
            generalize w5.heap.size = G at *
            have g0 := HS6.out.cell 0; have g1 := HS6.out.cell 1; have g2 := HS6.out.cell 2; have g3 := HS6.out.cell 3
            go_region_law (first
              | (go_simp; go_at_call 34; (with_reducible refine (heightS q HS6.out.drew HT.out hqq).mono ?_); rintro x w7 ⟨rfl, rfl⟩)
              | (go_simp; go_at_call 14; (with_reducible refine (putI b2 hr2 ms (l.length - (q + 1)) (hOf l2 q) l q hlt HS6.out.drew.up2 HD.out.1 (by omega) HE.out hqq HCk.out HCv.out).mono ?_); rintro x w7 ⟨ns', rfl, ht7, ha7, hs7⟩; have HT7 := Lib.hid ht7; have HA7 := Lib.hid ha7; have HS7 := Lib.hid hs7; clear ht7 ha7 hs7))
            all_goals
              go_wp2_with fail
              go_roundw
              · exact ⟨q, ns', by omega, by push_cast; rfl, by rw [show l.length - q = l.length - (q + 1) + 1 by omega]; exact HT7.out, holds_dn HD.out.2.1 hlt (Nat.le_refl _) HA7.out, HS7.out.drop2⟩
              · simp [intOf] <;> omega
end Go.Proofs.Ytlcifkkgekpicaa
