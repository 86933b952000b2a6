/- The document's Build. (Written by gen_tabrbuild.py.) -/
import Derived.Test.YtaoenbjfkahdjaaQ22
import Derived.Test.YtaoenbjfkahdjaaQAppG
namespace Go.Proofs.Ytaoenbjfkahdjaa
open Go.RowKit
set_option linter.unusedVariables false
set_option maxRecDepth 100000

/-- What holds ahead of an entry. -/
structure RbAt (w : World) (L : List Ent) (i : Nat) (vb vx : Value) (wr : World) : Prop where
  sat : Sat w (Row 5 1 vb (bodyB L i).length ((bodyB L i).map bv) * (Row 5 1 vx (idxR L i).length ((idxR L i).map bv) * Emp)) wr
theorem Sat.rdOw {w0 w : World} {F : SP} {b : Nat} {cs : Array Value} {t : TypeId} {fr : Nat × Nat} {xs : List Value} (h : Sat w0 (Ow b (.cells cs t fr) * F) w) (hx : cs.toList = xs) : RdV w (some ⟨b, 0, none⟩) xs := fun _ =>
  ⟨b, 0, rfl, fun j hj => by
    rw [cell_of_row w b (0 + j) cs t fr h.block, Nat.zero_add]
    subst hx
    simp at hj
    simp [hj]⟩
theorem two_rdB {w0 w : World} {g : Nat} {F : SP} (n m : Nat) (hn : n ≤ 128) (hm : m ≤ 128) (h : Sat w0 (Pt g 5 #[.int .u8 (n : Int), .int .u8 (m : Int)] * F) w) : Rd w (some ⟨g, 0, none⟩) [UInt8.ofNat n, UInt8.ofNat m] := RdV.of_at h.at fun j hj => by
  have hn : ((UInt8.ofNat n).toNat : Int) = n := by rw [UInt8.toNat_ofNat', Nat.mod_eq_of_lt (by omega)]
  have hm : ((UInt8.ofNat m).toNat : Int) = m := by rw [UInt8.toNat_ofNat', Nat.mod_eq_of_lt (by omega)]
  have e : ([UInt8.ofNat n, UInt8.ofNat m].map bv) = [.int .u8 (n : Int), .int .u8 (m : Int)] := by
    unfold bv
    rw [List.map_cons, List.map_cons, List.map_nil, hn, hm]
  simp only [e]
  rw [← List.getElem?_eq_getElem (by rw [e] at hj; exact hj)]
  simp
theorem one_rdB {w0 w : World} {g : Nat} {F : SP} (b : UInt8) (h : Sat w0 (Pt g 5 #[.int .u8 (b.toNat : Int)] * F) w) : Rd w (some ⟨g, 0, none⟩) [b] := RdV.of_at h.at fun j hj => by
  have e : ([b].map bv) = [.int .u8 (b.toNat : Int)] := rfl
  simp only [e]
  rw [← List.getElem?_eq_getElem (by rw [e] at hj; exact hj)]
  simp
theorem may_no {e : Ent} (h : mayE e = false) : 128 < e.key.length ∨ (e.key.length ≤ 128 ∧ 16384 < e.value.length) ∨ (e.key.length ≤ 128 ∧ e.value.length ≤ 16384 ∧ e.dead = true ∧ 0 < e.value.length) ∨ (e.key.length ≤ 128 ∧ e.value.length ≤ 16384 ∧ (e.dead = false ∨ e.value.length = 0) ∧ e.seq < 0) := by
  unfold mayE at h
  by_cases h1 : e.key.length ≤ 128
  · by_cases h2 : e.value.length ≤ 16384
    · cases hd : e.dead with
      | false =>
        rw [decide_eq_true h1, decide_eq_true h2, hd] at h
        simp at h
        exact .inr (.inr (.inr ⟨h1, h2, .inl rfl, h⟩))
      | true =>
        by_cases h3 : e.value.length = 0
        · rw [decide_eq_true h1, decide_eq_true h2, hd, decide_eq_true h3] at h
          simp at h
          exact .inr (.inr (.inr ⟨h1, h2, .inr h3, h⟩))
        · exact .inr (.inr (.inl ⟨h1, h2, rfl, by omega⟩))
    · exact .inr (.inl ⟨h1, by omega⟩)
  · exact .inl (by omega)
set_option maxRecDepth 1000000 in
set_option maxHeartbeats 8000000 in
theorem rbuild_any (A : Option Addr) (c : Nat) (es : List En) (w : World) (h : RdV w A (es.flatMap enV)) (hr : EnsR w es) (hc : es.length ≤ c) (hm : c ≤ maxLen) (hsh : ∀ e ∈ es, e.key.2.2.length ≤ 140737488355328 ∧ e.value.2.2.length ≤ 140737488355328 ∧ e.key.2.2.length ≤ e.key.2.1 ∧ e.key.2.1 ≤ maxLen) (hi64 : ∀ e ∈ es, e.seq < 9223372036854775808) :
    Calls Try.prog 25 #[.slice A es.length c] w (Built (es.map En.ent) w) := by
  have HL := Lib.hid h
  have HR := Lib.hid hr
  have HM := Lib.hid hm
  have HI64 := Lib.hid hi64
  have HSh := Lib.hid hsh
  obtain ⟨L, hLe⟩ : ∃ L, L = es.map En.ent := ⟨_, rfl⟩
  have HLe := Lib.hid hLe
  have hlen : L.length = es.length := by rw [hLe, List.length_map]
  rw [← hLe]
  unfold maxLen at hm
  clear h hr hsh hi64 hLe
  obtain ⟨Q, hQ⟩ : ∃ Q, buildE L = Q := ⟨_, rfl⟩
  have HQ : Hid (Built L w = fun x w' => (Q ≠ 0 ∧ x = .returned (.tuple #[.slice none 0 0, .int .i64 (Q : Nat)]) ∧ Chg No w w') ∨ (Q = 0 ∧ ∃ A c, x = .returned (.tuple #[.slice A (buildB L).length c, .int .i64 0]) ∧ (buildB L).length ≤ c ∧ c ≤ maxLen ∧ Sat w (Row 5 1 (.slice A (buildB L).length c) (buildB L).length ((buildB L).map bv) * Emp) w')) := by
    unfold Hid Built
    rw [hQ]
  rw [HQ.out]
  have HBE := Lib.hid hQ
  have HLen := Lib.hid hlen
  clear hQ hlen
  obtain ⟨S, hS⟩ : ∃ S, sortedB L = S := ⟨_, rfl⟩
  have HSo : Hid (sortedB (es.map En.ent) = S) := by rw [← HLe.out]; exact hS
  have HSo2 := Lib.hid hS
  clear hS
  cases S
  · have hq : Q = 70 := by rw [← HBE.out]; unfold buildE; rw [if_pos HSo2.out]
    subst hq
    go_enter Try.func25, Try.ntmps25
    go_wp2_with (go_at_call 73; refine (rsorted_any A c es w HL.out HR.out hc HM.out).mono ?_; rintro x w1 ⟨rfl, k1⟩; rw [HSo.out]; have HK := Lib.hid k1; clear k1)
    go_ret2
    exact .inl ⟨by decide, rfl, HK.out⟩
  · by_cases hbig : 65536 < es.length
    · have hq : Q = 71 := by rw [← HBE.out]; unfold buildE; rw [if_neg (by rw [HSo2.out]; simp), if_pos (.inl (by rw [HLen.out]; exact hbig))]
      subst hq
      have hbi : (65536 : Int) < es.length := by omega
      go_enter Try.func25, Try.ntmps25
      go_wp2_with (go_at_call 73; refine (rsorted_any A c es w HL.out HR.out hc HM.out).mono ?_; rintro x w1 ⟨rfl, k1⟩; rw [HSo.out]; have HK := Lib.hid k1; clear k1)
      go_ret2
      exact .inl ⟨by decide, rfl, HK.out⟩
    · have hbi : ¬ (65536 : Int) < es.length := by omega
      go_enter Try.func25, Try.ntmps25
      go_wp2_with (go_at_call 73; refine (rsorted_any A c es w HL.out HR.out hc HM.out).mono ?_; rintro x w1 ⟨rfl, k1⟩; rw [HSo.out]; have HK := Lib.hid k1; clear k1)
      go_loopw [4] (fun iv wr => ∃ i : Nat, i ≤ es.length ∧ iv = .int .i64 i ∧ Hid ((∀ j (h : j < es.length), j < i → mayE es[j].ent = true) ∧ wr = w1)) (fun iv _ => es.length - (intOf iv).toNat)
      case atStart => exact ⟨0, by omega, rfl, fun j _ h => by omega, rfl⟩
      case round =>
        obtain ⟨i, hi, rfl, HD⟩ := hrel
        have hwr := HD.out.2
        subst hwr
        by_cases hlt : i < es.length
        · obtain ⟨lb, lo, rfl, hq⟩ := ents_at (HL.out.new HK.out) (by omega)
          obtain ⟨a0, a1, a2, a3⟩ := hq i hlt
          unfold slv' at a0 a1
          obtain ⟨⟨⟨kA, kc, kl⟩, ⟨vA, vc, vl⟩, sq, dd⟩, he⟩ : ∃ e, e = es[i] := ⟨_, rfl⟩
          have HEi := Lib.hid he
          rw [← he] at a0 a1 a2 a3
          clear hq he
          cases hmay : mayE es[i].ent with
          | false =>
            have hq : Q = 71 := by
              rw [← HBE.out]
              unfold buildE
              rw [if_neg (by rw [HSo2.out]; simp), if_pos (.inr (List.any_eq_true.2 ⟨es[i].ent, by rw [HLe.out]; exact List.mem_map_of_mem (List.getElem_mem hlt), by rw [hmay]; rfl⟩))]
            subst hq
            have hno := may_no hmay
            rw [← HEi.out] at hno
            have hno : 128 < kl.length ∨ (kl.length ≤ 128 ∧ 16384 < vl.length) ∨ (kl.length ≤ 128 ∧ vl.length ≤ 16384 ∧ dd = true ∧ 0 < vl.length) ∨ (kl.length ≤ 128 ∧ vl.length ≤ 16384 ∧ (dd = false ∨ vl.length = 0) ∧ sq < 0) := hno
            clear hmay
            rcases hno with h1 | ⟨h1, h2⟩ | ⟨h1, h2, rfl, h3⟩ | ⟨h1, h2, h3 | h3, h4⟩
            · go_wp2_with fail
              go_ret2
              first | exact .inl ⟨by decide, rfl, HK.out⟩ | exact ⟨rfl, HK.out⟩
            · go_wp2_with fail
              go_ret2
              first | exact .inl ⟨by decide, rfl, HK.out⟩ | exact ⟨rfl, HK.out⟩
            · go_wp2_with fail
              go_ret2
              first | exact .inl ⟨by decide, rfl, HK.out⟩ | exact ⟨rfl, HK.out⟩
            · subst h3
              go_wp2_with fail
              go_ret2
              first | exact .inl ⟨by decide, rfl, HK.out⟩ | exact ⟨rfl, HK.out⟩
            · rw [h3] at a1
              cases dd
              · go_wp2_with fail
                go_ret2
                first | exact .inl ⟨by decide, rfl, HK.out⟩ | exact ⟨rfl, HK.out⟩
              · go_wp2_with fail
                go_ret2
                first | exact .inl ⟨by decide, rfl, HK.out⟩ | exact ⟨rfl, HK.out⟩
          | true =>
            have HN : Hid (∀ j (h : j < es.length), j < i + 1 → mayE es[j].ent = true) := fun j h hj => by
              by_cases e : j = i
              · subst e; exact hmay
              · exact HD.out.1 j h (by omega)
            have h5 := mayE_iff.1 hmay
            rw [← HEi.out] at h5
            obtain ⟨h1, h2, h3, h4⟩ : kl.length ≤ 128 ∧ vl.length ≤ 16384 ∧ (dd = true → vl.length = 0) ∧ 0 ≤ sq := h5
            clear hmay
            cases dd
            · go_wp2_with fail
              go_roundw
              · exact ⟨i + 1, by omega, by push_cast; rfl, HN.out, trivial⟩
              · simp [intOf]; omega
            · rw [h3 rfl] at a1
              go_wp2_with fail
              go_roundw
              · exact ⟨i + 1, by omega, by push_cast; rfl, HN.out, trivial⟩
              · simp [intOf]; omega
        · have hie : i = es.length := by omega
          subst hie
          have hall : ∀ e ∈ es, mayE e.ent = true := fun e he => by
            obtain ⟨j, hj, rfl⟩ := List.mem_iff_getElem.1 he
            exact HD.out.1 j hj hj
          have hq : Q = 0 := by
            rw [← HBE.out]
            unfold buildE
            rw [if_neg (by rw [HSo2.out]; simp), if_neg]
            rintro (q | q)
            · rw [HLen.out] at q; omega
            · obtain ⟨x, hx, hx2⟩ := List.any_eq_true.1 q
              rw [HLe.out] at hx
              obtain ⟨e, he, rfl⟩ := List.mem_map.1 hx
              rw [hall e he] at hx2
              cases hx2
          have HMay : Hid (∀ e ∈ es, e.key.2.2.length ≤ 128 ∧ e.value.2.2.length ≤ 16384 ∧ 0 ≤ e.seq) := fun e he => by
            have h3 := mayE_iff.1 (hall e he)
            exact ⟨h3.1, h3.2.1, h3.2.2.2⟩
          have HMx : Hid (∀ e ∈ L, e.key.length ≤ 128 ∧ e.value.length ≤ 16384) := fun e he => by
            rw [HLe.out] at he
            obtain ⟨x, hx, rfl⟩ := List.mem_map.1 he
            have := HMay.out x hx
            exact ⟨this.1, this.2.1⟩
          subst hq
          clear hall HD
          have hcv := fun (W : World) (C : Array Value) (n c : Nat) => Lib.run_convert_bytes_const (P := Try.prog) W 32 5 C n c Try.underlying32 Try.underlying5
          obtain ⟨N4, hN4⟩ : ∃ N4, putB es.length 4 = N4 := ⟨_, rfl⟩
          have hN4l : N4.length = 4 := by rw [← hN4, putB_len]
          have HZ0 : Hid (bodyB L 0 = markB ++ N4) := by unfold Hid; rw [body_zero, HLen.out, hN4]
          have HN4 := Lib.hid hN4
          have HN4l := Lib.hid hN4l
          obtain ⟨j0, hj, hy0, hy1, hy2⟩ := info_parts info_u8
          have Hj := Lib.hid hj; have Hy0 := Lib.hid hy0; have Hy1 := Lib.hid hy1; have Hy2 := Lib.hid hy2
          clear hN4 hj hy0 hy1 hy2
          have HKM := Lib.hid (((Sat.start w).new HK.out).alloc (.cells #[.int .u8 84, .int .u8 68, .int .u8 84, .int .u8 49] 5 (4, 5)))
          have HB0l : Hid (4 + N4.length = (bodyB L 0).length) := by unfold Hid; rw [HZ0.out, List.length_append]; rfl
          have HB0m : Hid (markB.map bv ++ N4.map bv = (bodyB L 0).map bv) := by unfold Hid; rw [HZ0.out, List.map_append]
          have hes : es.length < 9223372036854775808 := by omega
          have hn4e : N4.map bv ≠ [] := fun e => by have h5 := congrArg List.length e; rw [List.length_map, hN4l] at h5; simp at h5
          have hN4b : N4.length ≤ 4 := by omega
          have HG4 : Hid (4 < 4 + N4.length) := by unfold Hid; omega
          clear hN4l
          go_upto_region 11 with (first
            | (go_at_call 74; (with_reducible refine (rnumS es.length 4 4 rfl hes (by omega) (by omega) w _ _ HKM.out N4 HN4.out).mono ?_); rintro x w3 ⟨A3, c3, rfl, hs3⟩; have HS3 := Lib.hid hs3; clear hs3)
            | (at_builtin; refine wpList_appG rfl (.tmp 73) (.tmp 76) 32 rfl 5 j0 _ 1 1 Try.underlying32 Hj.out Hy0.out Hy1.out Hy2.out rfl (by decide) ⟨wr.heap.size, 0, none⟩ 4 4 (markB.map bv) rfl rfl (HS3.out.up2.rdOw rfl) HS3.out A3 N4.length c3 (N4.map bv) rfl HS3.out.row_rdK (by simp) HG4.out hn4e (by unfold maxLen; omega) (by omega) ?_; intro A5 c5 w5 hs5; rw [HB0l.out]; rw [HB0l.out, HB0m.out] at hs5; have HS5 := Lib.hid hs5.drop2.drop2; clear hs5))
          have HC5 := Lib.hid HS5.out.chg
          clear HKM HS3 HB0l HB0m HZ0 HN4 HN4l HG4 hn4e hN4b hcv hes
          go_wp2_with fail
          go_loopw [5, 6, 7, 8, 9] (fun vb vx gv uv iv wr => ∃ i : Nat, i ≤ es.length ∧ iv = .int .i64 i ∧ gv = .int .i64 (((i + 7) / 8 : Nat) : Int) ∧ uv = .int .i64 (((unlike L i).length : Nat) : Int) ∧ Hid (RbAt w L i vb vx wr)) (fun _ _ _ _ iv _ => es.length - (intOf iv).toNat)
          case atStart => exact ⟨0, by omega, rfl, rfl, rfl, ⟨(HS5.out.row_nil 5 1).up2⟩⟩
          case round =>
            obtain ⟨i, hi, rfl, rfl, rfl, HD⟩ := hrel
            obtain ⟨AB, cb, rfl, hb1, hb2⟩ := HD.out.sat.row_sl
            obtain ⟨AX, cx, rfl, hx1, hx2⟩ := HD.out.sat.up2.row_sl
            have hBl := bodyB_len L HMx.out i
            have hXl := idxR_len L HMx.out i
            clear hb1 hb2 hx1 hx2
            by_cases hlt2 : i < es.length
            · obtain ⟨lb, lo, rfl, hq⟩ := ents_at HL.out (by omega)
              obtain ⟨z0, z1, z2, z3⟩ := hq i hlt2
              have HHq := Lib.hid hq
              unfold slv' at z0 z1
              obtain ⟨⟨⟨kA, kc, kl⟩, ⟨vA, vc, vl⟩, sq, dd⟩, he⟩ : ∃ e, e = es[i] := ⟨_, rfl⟩
              have HEi := Lib.hid he
              have hma := HMay.out _ (List.getElem_mem hlt2)
              have hsq2 := HI64.out _ (List.getElem_mem hlt2)
              have hre := HR.out _ (List.getElem_mem hlt2)
              have hcap := (HSh.out _ (List.getElem_mem hlt2)).2.2.1
              rw [← he] at z0 z1 z2 z3 hma hsq2 hre hcap
              obtain ⟨hkl, hvl, hsq⟩ : kl.length ≤ 128 ∧ vl.length ≤ 16384 ∧ 0 ≤ sq := hma
              replace hsq2 : sq < 9223372036854775808 := hsq2
              have hkc : kl.length ≤ kc := hcap
              obtain ⟨sn, rfl⟩ : ∃ sn : Nat, sq = sn := ⟨sq.toNat, by omega⟩
              have hsn : sn < 9223372036854775808 := by omega
              have HSn := Lib.hid hsn
              have HRk : Hid (Rd w kA kl) := hre.1
              have HRv : Hid (Rd w vA vl) := hre.2
              obtain ⟨al, hal⟩ : ∃ al, al = aheadK L i := ⟨_, rfl⟩
              have hall : al.length ≤ 128 := by rw [hal]; exact ahead_short (fun e he => (HMx.out e he).1) i
              obtain ⟨n, hn⟩ : ∃ n, n = commonN al kl := ⟨_, rfl⟩
              have hn2 := commonN_le al kl
              rw [← hn] at hn2
              obtain ⟨dn, hdn⟩ : ∃ dn : UInt8, dn = if dd then 1 else 0 := ⟨_, rfl⟩
              have HDn := Lib.hid hdn
              have HBn : Hid (bodyB L (i + 1) = bodyB L i ++ ([UInt8.ofNat n, UInt8.ofNat (kl.length - n)] ++ (putB sn 8 ++ ([dn] ++ (putB vl.length 2 ++ (kl.drop n ++ vl)))))) := by
                unfold Hid
                rw [bodyB_succ]
                congr 1
                unfold entAt
                rw [HLe.out, map_at hlt2, ← HLe.out, ← HEi.out, ← hal]
                show entB al ⟨kl, vl, (sn : Int), dd⟩ = _
                unfold entB
                rw [← hn, hdn]
                rfl
              have HXn : Hid (idxR L (i + 1) = idxR L i ++ idxAt L i) := idxR_succ L i
              have HUn : Hid ((unlike L (i + 1)) = if i = 0 then unlike L i ++ [kl] else match L[i - 1]? with
                | some d => if d.key = kl then unlike L i else unlike L i ++ [kl]
                | none => unlike L i ++ [kl]) := by
                unfold Hid
                conv => lhs; unfold unlike
                rw [HLe.out, map_at hlt2, ← HLe.out, ← HEi.out]
                rfl
              have HIx : Hid (idxAt L i = if i % 8 = 0 then putB (bodyB L i).length 4 ++ ([UInt8.ofNat kl.length] ++ kl) else []) := by
                unfold Hid idxAt
                rw [HLe.out, map_at hlt2, ← HLe.out, ← HEi.out]
                rfl
              have HAl : Hid (al = aheadK L i) := hal
              have HN := Lib.hid hn
              have HPrev : Hid (∀ h : 0 < i, ∃ e : En, L[i - 1]? = some e.ent ∧ (∃ (pA : Option Addr) (pc : Nat), e.key = (pA, pc, e.key.2.2) ∧ Rd w pA e.key.2.2 ∧ w.cell? ⟨lb, lo + (i - 1) * 4, none⟩ = some (.slice pA e.key.2.2.length pc)) ∧ e.key.2.2.length ≤ 128) := fun h => by
                have hl1 : i - 1 < es.length := by omega
                refine ⟨es[i - 1], by rw [HLe.out]; exact map_at hl1, ⟨es[i - 1].key.1, es[i - 1].key.2.1, rfl, (HR.out _ (List.getElem_mem hl1)).1, (HHq.out (i - 1) hl1).1⟩, (HMay.out _ (List.getElem_mem hl1)).1⟩
              clear hre hcap he hal hn hdn hq HHq hsq hsq2 hsn
              obtain ⟨B, hB⟩ : ∃ B, bodyB L i = B := ⟨_, rfl⟩
              obtain ⟨X, hX⟩ : ∃ X, idxR L i = X := ⟨_, rfl⟩
              obtain ⟨X', hX'⟩ : ∃ X', idxR L (i + 1) = X' := ⟨_, rfl⟩
              obtain ⟨B', hB'⟩ : ∃ B', bodyB L (i + 1) = B' := ⟨_, rfl⟩
              have HX' := Lib.hid hX'
              have HB' := Lib.hid hB'
              have hs0 := HD.out.sat
              rw [hB] at HBn HIx hBl hs0
              rw [hB'] at HBn
              rw [hX] at HXn hXl hs0
              rw [hX'] at HXn
              rw [hB, hX]
              have HS0 := Lib.hid hs0
              have Z := Lib.hid (And.intro z0 (And.intro z1 (And.intro z2 z3)))
              have a0 := HS0.out.chg.cell z0 id
              clear hB hX hX' hB' hs0 HD z0 z1 z2 z3
              go_upto_if 91 with fail
              go_cut [6, 7, 10] (fun vx gv sv wx => ∃ (AX' : Option Addr) (cx' : Nat), vx = .slice AX' X'.length cx' ∧ gv = .int .i64 (((i + 1 + 7) / 8 : Nat) : Int) ∧ sv = .int .i64 (n : Int) ∧ Hid (Sat w (Row 5 1 (.slice AX' X'.length cx') X'.length (X'.map bv) * (Row 5 1 (.slice AB B.length cb) B.length (B.map bv) * Emp)) wx))
              case first =>
                by_cases h8 : i % 8 = 0
                · have hm1 : (i : Int) % 8 = 0 := by omega
                  have hm2 : (i : Int).tmod 8 = 0 := by rw [Int.tmod_eq_emod_of_nonneg (by omega)]; exact hm1
                  have hgr : Hid ((((i + 7) / 8 : Nat) : Int) + 1 = (((i + 1 + 7) / 8 : Nat) : Int)) := by unfold Hid; omega
                  have HZn : Hid (n = 0) := by unfold Hid; rw [HN.out, HAl.out]; unfold aheadK; rw [if_pos h8]; rfl
                  have hw8 : IntKind.u8.wrap (kl.length : Int) = kl.length := by rw [IntKind.wrap_u8]; omega
                  obtain ⟨P4, hP4⟩ : ∃ P4, putB B.length 4 = P4 := ⟨_, rfl⟩
                  have hP4l : P4.length = 4 := by rw [← hP4, putB_len]
                  obtain ⟨X1, hX1⟩ : ∃ X1, X1 = X ++ P4 := ⟨_, rfl⟩
                  obtain ⟨X2, hX2⟩ : ∃ X2, X2 = X1 ++ [UInt8.ofNat kl.length] := ⟨_, rfl⟩
                  have hX3 : X' = X2 ++ kl := by rw [HXn.out, HIx.out, if_pos h8, hP4, hX2, hX1]; simp only [List.append_assoc]
                  have h1l : Hid (X1.length ≤ 140737488355328) := by unfold Hid; rw [hX1, List.length_append]; omega
                  have h2l : Hid (X2.length ≤ 140737488355328) := by unfold Hid; rw [hX2, hX1, List.length_append, List.length_append]; simp only [List.length_singleton]; omega
                  have h3l : Hid (X'.length ≤ 140737488355328) := by unfold Hid; rw [hX3, hX2, hX1, List.length_append, List.length_append, List.length_append]; simp only [List.length_singleton]; omega
                  have HP4 := Lib.hid hP4; have HX1 := Lib.hid hX1; have HX2 := Lib.hid hX2; have HX3 := Lib.hid hX3
                  have hB63 : Hid (B.length < 9223372036854775808) := by unfold Hid; omega
                  clear hP4l hP4 hX1 hX2 hX3 h8
                  go_wp2_with (first
                    | (go_at_call 74; (with_reducible refine (rnumS B.length 4 4 rfl hB63.out (by omega) (by omega) w _ _ HS0.out P4 HP4.out).mono ?_); rintro x w3 ⟨A3, c3, rfl, hs3⟩; have HS3 := Lib.hid hs3; clear hs3)
                    | (at_builtin; refine wpList_appB rfl (.tmp 94) (.tmp 97) rfl AX cx X rfl HS3.out.up3 A3 c3 P4 rfl HS3.out.row_rdK X1 HX1.out h1l.out ?_; intro A4 c4 w4 hs4; have HS4 := Lib.hid hs4; have HS4a := Lib.hid (hs4.allocPt 5 #[.int .u8 (kl.length : Int)]); clear hs4)
                    | (at_builtin; refine wpList_appB rfl (.tmp 98) (.tmp 102) rfl A4 c4 X1 rfl HS4a.out.up2 (some ⟨w4.heap.size, 0, none⟩) 1 [UInt8.ofNat kl.length] rfl (one_rd kl.length hkl HS4a.out) X2 HX2.out h2l.out ?_; intro A6 c6 w6 hs6; have HS6 := Lib.hid hs6; clear hs6)
                    | (at_builtin; refine wpList_appB rfl (.tmp 103) (.tmp 104) rfl A6 c6 X2 rfl HS6.out kA kc kl rfl (HRk.out.new HS6.out.chg) X' HX3.out h3l.out ?_; intro A7 c7 w7 hs7; have HS7 := Lib.hid hs7.drop2.drop2; clear hs7))
                  go_meet
                  exact ⟨A7, c7, rfl, congrArg (Value.int IntKind.i64) (by omega), by rw [HZn.out]; rfl, HS7.out⟩
                · have hi0 : 0 < i := by omega
                  obtain ⟨p, hp1, ⟨pA, pc, hpk, hpr, hpc⟩, hpl⟩ := HPrev.out hi0
                  have hpa : al = p.key.2.2 := by rw [HAl.out]; unfold aheadK; rw [if_neg h8, hp1]; rfl
                  rw [← hpa] at hpr hpc hpl
                  have hm1 : ¬ (i : Int) % 8 = 0 := by omega
                  have hm2 : ¬ (i : Int).tmod 8 = 0 := by rw [Int.tmod_eq_emod_of_nonneg (by omega)]; exact hm1
                  have hgr : Hid ((((i + 7) / 8 : Nat) : Int) = (((i + 1 + 7) / 8 : Nat) : Int)) := by unfold Hid; omega
                  have HXX : Hid (X' = X) := by unfold Hid; rw [HXn.out, HIx.out, if_neg h8, List.append_nil]
                  have hsub : (i : Int) - 1 = ((i - 1 : Nat) : Int) := by omega
                  have hil : i - 1 < es.length := by omega
                  have hpc2 := HS0.out.chg.cell hpc id
                  have HPr : Hid (Rd w pA al) := hpr
                  clear hp1 hpk hpr hpc hpa h8
                  generalize i - 1 = q at *
                  go_wp2_with fail
                  go_loopw [10] (fun sv wx => ∃ j : Nat, j ≤ al.length ∧ j ≤ kl.length ∧ sv = .int .i64 (j : Int) ∧ Hid ((∀ t (h : t < al.length) (h' : t < kl.length), t < j → al[t] = kl[t]) ∧ Sat w (Row 5 1 (.slice AB B.length cb) B.length (B.map bv) * (Row 5 1 (.slice AX X.length cx) X.length (X.map bv) * Emp)) wx)) (fun sv _ => kl.length - (intOf sv).toNat)
                  case atStart => exact ⟨0, by omega, by omega, rfl, fun t _ _ h => by omega, HS0.out⟩
                  case round =>
                    obtain ⟨j, hj1, hj2, rfl, HE⟩ := hrel
                    by_cases h1 : j < kl.length
                    · by_cases h2 : j < al.length
                      · obtain ⟨b1, o1, rfl, c1⟩ := (HPr.out.new HE.out.2.chg).get h2
                        obtain ⟨b2, o2, rfl, c2⟩ := (HRk.out.new HE.out.2.chg).get h1
                        by_cases h3 : al[j] = kl[j]
                        · have HNx : Hid (∀ t (h : t < al.length) (h' : t < kl.length), t < j + 1 → al[t] = kl[t]) := fun t h h' ht => by
                            by_cases e : t = j
                            · subst e; exact h3
                            · exact HE.out.1 t h h' (by omega)
                          rw [h3] at c1
                          clear h3
                          go_wp2_with fail
                          go_quiet (fail)
                          go_wp2_with fail
                          go_roundw
                          · exact ⟨j + 1, by omega, by omega, by push_cast; rfl, HNx.out, HE.out.2.drewN _⟩
                          · simp [intOf]; omega
                        · have h4 : ((kl[j].toNat : Int) == (al[j].toNat : Int)) = false := by
                            rw [beq_eq_false_iff_ne]
                            intro e
                            exact h3 (UInt8.toNat.inj (by omega))
                          have HEe : Hid (n = j) := by unfold Hid; rw [HN.out]; exact commonN_eq hj1 hj2 HE.out.1 (fun _ _ => h3)
                          clear h3
                          go_wp2_with fail
                          go_quiet (fail)
                          go_wp2_with fail
                          go_meet
                          exact ⟨AX, cx, by rw [HXX.out], congrArg (Value.int IntKind.i64) (by omega), by rw [HEe.out], by rw [HXX.out]; exact (HE.out.2.drewN _).up2⟩
                      · have HEe : Hid (n = j) := by unfold Hid; rw [HN.out]; exact commonN_eq hj1 hj2 HE.out.1 (fun h => absurd h h2)
                        go_wp2_with fail
                        go_quiet (fail)
                        go_wp2_with fail
                        go_meet
                        exact ⟨AX, cx, by rw [HXX.out], congrArg (Value.int IntKind.i64) (by omega), by rw [HEe.out], by rw [HXX.out]; exact (HE.out.2.drewN _).up2⟩
                    · have HEe : Hid (n = j) := by unfold Hid; rw [HN.out]; exact commonN_eq hj1 hj2 HE.out.1 (fun _ h => absurd h h1)
                      go_wp2_with fail
                      go_quiet (fail)
                      go_wp2_with fail
                      go_meet
                      exact ⟨AX, cx, by rw [HXX.out], congrArg (Value.int IntKind.i64) (by omega), by rw [HEe.out], by rw [HXX.out]; exact (HE.out.2.drewN _).up2⟩
              case rest =>
                obtain ⟨AX', cx', e1, e2, e3, hcut⟩ := hcut
                subst e1; subst e2; subst e3
                have HS1 := hcut
                clear hcut a0 HS0
                refine ‹∀ (a : Act) (w : World), Code.wp _ _ _ a w → _› _ _ ?_
                apply wp_seq_k
                intro _ _
                go_cut [8] (fun uv wx => uv = .int .i64 (((unlike L (i + 1)).length : Nat) : Int) ∧ Hid (Sat w (Row 5 1 (.slice AX' X'.length cx') X'.length (X'.map bv) * (Row 5 1 (.slice AB B.length cb) B.length (B.map bv) * Emp)) wx))
                case first =>
                  by_cases hi0 : i = 0
                  · have HU : Hid (((unlike L (i + 1)).length : Int) = ((unlike L i).length : Int) + 1) := by
                      unfold Hid
                      rw [HUn.out, if_pos hi0, List.length_append]
                      simp
                    have hic : ((i : Int) == 0) = true := by simp; omega
                    have hUl := unlike_len L i
                    clear hi0
                    generalize (unlike L i).length = U at *
                    go_wp2_with fail
                    go_quiet (fail)
                    go_wp2_with fail
                    go_meet
                    exact ⟨congrArg (Value.int IntKind.i64) HU.out.symm, HS1.out.drewN _⟩
                  · have hip : 0 < i := by omega
                    obtain ⟨p, hp1, ⟨pA, pc, hpk, hpr, hpc⟩, hpl⟩ := HPrev.out hip
                    have hsub : (i : Int) - 1 = ((i - 1 : Nat) : Int) := by omega
                    have hil : i - 1 < es.length := by omega
                    have hpc2 := HS1.out.chg.cell hpc id
                    obtain ⟨pk, hpk2⟩ : ∃ pk, pk = p.key.2.2 := ⟨_, rfl⟩
                    rw [← hpk2] at hpr hpc hpc2
                    obtain ⟨SA, SB, T, e1, e2, e3, e4⟩ := str_two kl pk
                    have s1 := fun n => str_any (HRk.out.new (HS1.out.chg.drewN n)) kc
                    have s2 := fun n => str_any (hpr.new (HS1.out.chg.drewN n)) pc
                    simp only [← e1] at s1
                    simp only [← e2] at s2
                    have HU : Hid (((unlike L (i + 1)).length : Int) = if T then ((unlike L i).length : Int) else ((unlike L i).length : Int) + 1) := by
                      unfold Hid
                      rw [HUn.out, if_neg hi0, hp1]
                      simp only
                      rw [e4, show p.ent.key = pk from hpk2.symm]
                      by_cases q : kl = pk
                      · rw [if_pos q.symm, decide_eq_true q]; rfl
                      · rw [if_neg (fun x => q x.symm), decide_eq_false q, List.length_append]; simp
                    have hic : ((i : Int) == 0) = false := by simp; omega
                    have hUl := unlike_len L i
                    clear hi0 hp1 hpk hpk2 hpr hpc e1 e2 e4 hpl
                    generalize (unlike L i).length = U at *
                    generalize i - 1 = q at *
                    cases T
                    all_goals
                      go_wp2_with fail
                      go_quiet (fail)
                      go_wp2_with fail
                      go_meet
                      exact ⟨congrArg (Value.int IntKind.i64) HU.out.symm, HS1.out.drewN _⟩
                case rest =>
                  obtain ⟨e1, hcut⟩ := hcut
                  subst e1
                  have HS2 := hcut
                  clear hcut HS1
                  have a3 := HS2.out.chg.cell Z.out.2.2.2 id
                  go_upto_if 155 with fail
                  go_cut [13] (fun dv wx => dv = .int .u8 (dn.toNat : Int) ∧ Hid (Sat w (Row 5 1 (.slice AX' X'.length cx') X'.length (X'.map bv) * (Row 5 1 (.slice AB B.length cb) B.length (B.map bv) * Emp)) wx))
                  case first =>
                    cases dd
                    all_goals
                      go_wp2_with fail
                      go_meet
                      exact ⟨by rw [HDn.out]; rfl, HS2.out⟩
                  case rest =>
                    obtain ⟨e1, hcut⟩ := hcut
                    subst e1
                    have HS3 := Lib.hid hcut.out.up2
                    clear hcut HS2 a3
                    have hnl := hn2.2
                    obtain ⟨m, hm9⟩ : ∃ m, m = kl.length - n := ⟨_, rfl⟩
                    have hsub : (kl.length : Int) - (n : Int) = (m : Int) := by omega
                    have hw1 : IntKind.u8.wrap (n : Int) = n := by rw [IntKind.wrap_u8]; omega
                    have hw2 : IntKind.u8.wrap (m : Int) = m := by rw [IntKind.wrap_u8]; omega
                    have hn128 : n ≤ 128 := by omega
                    have hm128 : m ≤ 128 := by omega
                    obtain ⟨P8, hP8⟩ : ∃ P8, putB sn 8 = P8 := ⟨_, rfl⟩
                    obtain ⟨P2, hP2⟩ : ∃ P2, putB vl.length 2 = P2 := ⟨_, rfl⟩
                    have h8l : P8.length = 8 := by rw [← hP8, putB_len]
                    have h2l : P2.length = 2 := by rw [← hP2, putB_len]
                    obtain ⟨B1, hB1⟩ : ∃ B1, B1 = B ++ [UInt8.ofNat n, UInt8.ofNat m] := ⟨_, rfl⟩
                    obtain ⟨B2, hB2⟩ : ∃ B2, B2 = B1 ++ P8 := ⟨_, rfl⟩
                    obtain ⟨B3, hB3⟩ : ∃ B3, B3 = B2 ++ [dn] := ⟨_, rfl⟩
                    obtain ⟨B4, hB4⟩ : ∃ B4, B4 = B3 ++ P2 := ⟨_, rfl⟩
                    obtain ⟨B5, hB5⟩ : ∃ B5, B5 = B4 ++ kl.drop n := ⟨_, rfl⟩
                    have hB6 : B' = B5 ++ vl := by rw [HBn.out, hB5, hB4, hB3, hB2, hB1, hP8, hP2, hm9]; simp only [List.append_assoc]
                    have l1 : B1.length = B.length + 2 := by rw [hB1, List.length_append]; rfl
                    have l2 : B2.length = B.length + 10 := by rw [hB2, List.length_append]; omega
                    have l3 : B3.length = B.length + 11 := by rw [hB3, List.length_append, l2]; rfl
                    have l4 : B4.length = B.length + 13 := by rw [hB4, List.length_append]; omega
                    have l5 : B5.length = B.length + 13 + m := by rw [hB5, List.length_append, List.length_drop]; omega
                    have l6 : B'.length = B.length + 13 + m + vl.length := by rw [hB6, List.length_append, l5]
                    have b1 : Hid (B1.length ≤ 140737488355328) := by unfold Hid; omega
                    have b2 : Hid (B2.length ≤ 140737488355328) := by unfold Hid; omega
                    have b3 : Hid (B3.length ≤ 140737488355328) := by unfold Hid; omega
                    have b4 : Hid (B4.length ≤ 140737488355328) := by unfold Hid; omega
                    have b5 : Hid (B5.length ≤ 140737488355328) := by unfold Hid; omega
                    have b6 : Hid (B'.length ≤ 140737488355328) := by unfold Hid; omega
                    have hvl63 : Hid (vl.length < 9223372036854775808) := by unfold Hid; omega
                    have H1 := Lib.hid hB1; have H2 := Lib.hid hB2; have H3 := Lib.hid hB3; have H4 := Lib.hid hB4; have H5 := Lib.hid hB5; have H6 := Lib.hid hB6; have HP8 := Lib.hid hP8; have HP2 := Lib.hid hP2; have Hm9 := Lib.hid hm9
                    clear l1 l2 l3 l4 l5 l6 h8l h2l hB1 hB2 hB3 hB4 hB5 hB6 hP8 hP2 hm9
                    have HS3a := Lib.hid (HS3.out.allocPt 5 #[.int .u8 (n : Int), .int .u8 (m : Int)])
                    go_upto_region 33 with (first
                      | (at_builtin; refine wpList_appB rfl (.tmp 156) (.tmp 164) rfl AB cb B rfl HS3a.out.up2 (some ⟨wc.heap.size, 0, none⟩) 2 [UInt8.ofNat n, UInt8.ofNat m] rfl (two_rdB n m hn128 hm128 HS3a.out) B1 H1.out b1.out ?_; intro A4 c4 w4 hs4; have HS4 := Lib.hid hs4.drop2; have a2 := hs4.chg.cell Z.out.2.2.1 id; clear hs4)
                      | (go_at_call 74; (with_reducible refine (rnumS sn 8 8 rfl HSn.out (by omega) (by omega) w _ _ HS4.out P8 HP8.out).mono ?_); rintro x w5 ⟨A5, c5, rfl, hs5⟩; have HS5 := Lib.hid hs5; clear hs5)
                      | (at_builtin; refine wpList_appB rfl (.tmp 166) (.tmp 172) rfl A4 c4 B1 rfl HS5.out.up2 A5 c5 P8 rfl HS5.out.row_rdK B2 H2.out b2.out ?_; intro A6 c6 w6 hs6; have HS6 := Lib.hid hs6.drop2; have HS6a := Lib.hid (hs6.drop2.allocPt 5 #[.int .u8 (dn.toNat : Int)]); clear hs6)
                      | (at_builtin; refine wpList_appB rfl (.tmp 174) (.tmp 176) rfl A6 c6 B2 rfl HS6a.out.up2 (some ⟨w6.heap.size, 0, none⟩) 1 [dn] rfl (one_rdB dn HS6a.out) B3 H3.out b3.out ?_; intro A7 c7 w7 hs7; have HS7 := Lib.hid hs7.drop2; have a1 := hs7.chg.cell Z.out.2.1 id; clear hs7)
                      | (go_at_call 74; (with_reducible refine (rnumS vl.length 2 2 rfl hvl63.out (by omega) (by omega) w _ _ HS7.out P2 HP2.out).mono ?_); rintro x w8 ⟨A8, c8, rfl, hs8⟩; have HS8 := Lib.hid hs8; clear hs8)
                      | (at_builtin; refine wpList_appB rfl (.tmp 178) (.tmp 185) rfl A7 c7 B3 rfl HS8.out.up2 A8 c8 P2 rfl HS8.out.row_rdK B4 H4.out b4.out ?_; intro A9 c9 w9 hs9; have HS9 := Lib.hid hs9.drop2; clear hs9))
                    by_cases hcn : kc = n
                    · subst hcn
                      have hdr : Hid (kl.drop kc = []) := List.drop_of_length_le hkc
                      have hlk : kl.length - kc = 0 := by omega
                      go_wp2_with (first
                        | (at_builtin; refine wpList_appB rfl (.tmp 187) (.tmp 190) rfl A9 c9 B4 rfl HS9.out kA 0 [] rfl (Rd.nil _ _) B5 (by rw [H5.out, hdr.out]) b5.out ?_; intro A10 c10 w10 hs10; have HS10 := Lib.hid hs10; have a4 := hs10.chg.cell Z.out.2.1 id; clear hs10)
                        | (at_builtin; refine wpList_appB rfl (.tmp 192) (.tmp 197) rfl A10 c10 B5 rfl HS10.out vA vc vl rfl (HRv.out.new HS10.out.chg) B' H6.out b6.out ?_; intro A11 c11 w11 hs11; have HS11 := Lib.hid hs11; clear hs11))
                      go_roundw
                      · exact ⟨i + 1, by omega, by push_cast; rfl, rfl, rfl, ⟨by rw [HB'.out, HX'.out]; exact HS11.out⟩⟩
                      · simp [intOf]; omega
                    · have HRd : Hid (Rd w (kA.map (·.add n)) (kl.drop n)) := by
                        have h9 := Rd.drop HRk.out hnl hkc
                        rw [if_neg hcn] at h9
                        exact h9
                      go_wp2_with (first
                        | (at_builtin; refine wpList_appB rfl (.tmp 187) (.tmp 190) rfl A9 c9 B4 rfl HS9.out (kA.map (·.add n)) (kc - n) (kl.drop n) (by rw [List.length_drop]; rfl) (HRd.out.new HS9.out.chg) B5 H5.out b5.out ?_; intro A10 c10 w10 hs10; have HS10 := Lib.hid hs10; have a4 := hs10.chg.cell Z.out.2.1 id; clear hs10)
                        | (at_builtin; refine wpList_appB rfl (.tmp 192) (.tmp 197) rfl A10 c10 B5 rfl HS10.out vA vc vl rfl (HRv.out.new HS10.out.chg) B' H6.out b6.out ?_; intro A11 c11 w11 hs11; have HS11 := Lib.hid hs11; clear hs11))
                      go_roundw
                      · exact ⟨i + 1, by omega, by push_cast; rfl, rfl, rfl, ⟨by rw [HB'.out, HX'.out]; exact HS11.out⟩⟩
                      · simp [intOf]; omega
            · have hie : i = es.length := by omega
              subst hie
              have hul := unlike_len L es.length
              have hb0 : bodyB L es.length = bodyB L L.length := by rw [HLen.out]
              have hx0 : idxB L L.length = putB ((es.length + 7) / 8) 4 ++ idxR L es.length := by rw [← HLen.out]; rfl
              have hs0 := HD.out.sat
              obtain ⟨B, hB⟩ : ∃ B, bodyB L es.length = B := ⟨_, rfl⟩
              obtain ⟨X, hX⟩ : ∃ X, idxR L es.length = X := ⟨_, rfl⟩
              obtain ⟨u, hu⟩ : ∃ u, (unlike L es.length).length = u := ⟨_, rfl⟩
              obtain ⟨G4, hG4⟩ : ∃ G4, putB ((es.length + 7) / 8) 4 = G4 := ⟨_, rfl⟩
              obtain ⟨nb, hnb⟩ : ∃ nb, nbytes (u : Int) 10 = nb := ⟨_, rfl⟩
              rw [hB] at hb0 hs0 hBl
              rw [hX] at hx0 hs0 hXl
              rw [hG4] at hx0
              have hG4l : G4.length = 4 := by rw [← hG4, putB_len]
              rw [hu] at hul
              have hnbl := (nbytes_le (u : Int) 10 ⟨by omega, by omega, by omega, by omega⟩).2
              rw [hnb] at hnbl
              have hbitl : (bitsB L).length = nb := by rw [bitsB_len, HLen.out, hu, hnb]
              obtain ⟨C1, hC1⟩ : ∃ C1, C1 = B ++ G4 := ⟨_, rfl⟩
              obtain ⟨C, hC⟩ : ∃ C, C = C1 ++ X := ⟨_, rfl⟩
              have l1 : C1.length = B.length + 4 := by rw [hC1, List.length_append]; omega
              have l2 : C.length = B.length + 4 + X.length := by rw [hC, List.length_append, l1]
              have HS0 := Lib.hid hs0
              have HG4 := Lib.hid hG4; have HC1 := Lib.hid hC1; have HC := Lib.hid hC
              have b1 : Hid (C1.length ≤ 140737488355328) := by unfold Hid; omega
              have b2 : Hid (C.length ≤ 140737488355328) := by unfold Hid; omega
              have hCl : C.length ≤ 1200000000 := by omega
              have hg63 : Hid ((es.length + 7) / 8 < 9223372036854775808) := by unfold Hid; omega
              have hgz : Hid (((((es.length + 7) / 8 : Nat) : Int)) = ((es.length : Int) + 7) / 8) := by unfold Hid; omega
              rw [hB, hX, hu]
              have HB0 := Lib.hid hb0; have HX0 := Lib.hid hx0; have HBi := Lib.hid hbitl; have Hu := Lib.hid hu; have Hnb := Lib.hid hnb
              have HSz : Hid (∀ W, Calls Try.prog 75 #[.int .i64 (u : Int), .int .i64 10] W fun x w' => x = .returned (.tuple #[.int .i64 (8 * (nb : Int)), .int .i64 0]) ∧ W = w') := fun W => by
                have h9 := refSize_yes (u : Int) 10 W ⟨by omega, by omega, by omega, by omega⟩
                rw [hnb] at h9
                exact h9
              have hmk := make_bytes nb (by omega)
              have hdiv : (8 * (nb : Int)).tdiv 8 = nb := by rw [Int.tdiv_eq_ediv_of_nonneg (by omega)]; omega
              have hdiv2 : 8 * (nb : Int) / 8 = nb := by omega
              clear hs0 hG4 hC1 hC HD hB hX hb0 hx0 hbitl hu hnb l1 l2 hG4l hlt2
              go_upto_region 37 with (first
                | (go_at_call 74; refine (rnumS ((es.length + 7) / 8) 4 4 rfl hg63.out (by omega) (by omega) w _ _ HS0.out G4 HG4.out).mono ?_; rintro x w3 ⟨A3, c3, rfl, hs3⟩; have HS3 := Lib.hid hs3; clear hs3)
                | (at_builtin; refine wpList_appB rfl (.tmp 201) (.tmp 203) rfl AB cb B rfl HS3.out.up2 A3 c3 G4 rfl HS3.out.row_rdK C1 HC1.out b1.out ?_; intro A4 c4 w4 hs4; have HS4 := Lib.hid hs4.drop2; clear hs4)
                | (at_builtin; refine wpList_appB rfl (.tmp 204) (.tmp 205) rfl A4 c4 C1 rfl HS4.out AX cx X rfl HS4.out.up2.row_rdK C HC.out b2.out ?_; intro A6 c6 w6 hs6; have HS6 := Lib.hid hs6.left; clear hs6))
              go_upto_region 39 with (go_at_call 75; refine (HSz.out _).mono ?_; rintro x wq ⟨rfl, rfl⟩)
              have hs7 := (HS6.out.allocPt 5 (noughts nb)).allocPt 130 #[.slice (some ⟨w6.heap.size, 0, none⟩) nb nb]
              rw [World.size_alloc] at hs7
              have hfc : nb = (List.replicate nb (0 : UInt8)).length ∧ nb ≤ (noughts nb).size ∧ ∀ j (hj : j < (List.replicate nb (0 : UInt8)).length), (noughts nb)[j]? = some (bv (List.replicate nb (0 : UInt8))[j]) := by
                refine ⟨by simp, by simp [noughts], fun j hj => ?_⟩
                simp at hj
                simp [noughts, hj]
              have HS7 : Hid (Sat w (FiltP (w6.heap.size + 1) w6.heap.size nb nb (addAll (List.replicate nb 0) (((L.take 0).map (·.key)))) * (Row 5 1 (.slice A6 C.length c6) C.length (C.map bv) * Emp)) _) := Sat.filtI (n := nb) (c := nb) (B := List.replicate nb 0) hfc (hs7.of (by rw [star_emp]))
              clear hs7 hfc HSz hmk hdiv hdiv2
              go_wp2_with fail
              generalize hW7 : World.alloc (World.alloc w6 _) _ = w7 at *
              clear hW7
              generalize w6.heap.size = h at *
              go_loopw [18] (fun iv wx => ∃ j : Nat, j ≤ es.length ∧ iv = .int .i64 (j : Int) ∧ Hid (Sat w (FiltP (h + 1) h nb nb (addAll (List.replicate nb 0) ((L.take j).map (·.key))) * (Row 5 1 (.slice A6 C.length c6) C.length (C.map bv) * Emp)) wx)) (fun iv _ => es.length - (intOf iv).toNat)
              case atStart => exact ⟨0, by omega, rfl, HS7.out⟩
              case round =>
                obtain ⟨j, hj, rfl, HE⟩ := hrel
                by_cases hlt3 : j < es.length
                · obtain ⟨lb, lo, rfl, hq⟩ := ents_at HL.out (by omega)
                  have a0 := HE.out.chg.cell (hq j hlt3).1 id
                  unfold slv' at a0
                  have HRj := Lib.hid (HR.out _ (List.getElem_mem hlt3)).1
                  have hkj : es[j].key.2.2.length ≤ 140737488355328 := by have := (HMay.out _ (List.getElem_mem hlt3)).1; omega
                  have HNx : Hid (addAll (List.replicate nb 0) ((L.take (j + 1)).map (·.key)) = addKey (addAll (List.replicate nb 0) ((L.take j).map (·.key))) es[j].key.2.2) := by
                    unfold Hid
                    have hjL : j < L.length := by rw [HLen.out]; exact hlt3
                    have e9 : L[j].key = es[j].key.2.2 := by
                      have h9 : L[j]? = some es[j].ent := by rw [HLe.out]; exact map_at hlt3
                      rw [List.getElem?_eq_getElem hjL] at h9
                      rw [Option.some.inj h9]
                      rfl
                    rw [List.take_succ_eq_append_getElem hjL, List.map_append, addAll_append, List.map_cons, List.map_nil, e9]
                    rfl
                  clear hq
                  go_wp2_with (go_at_call 76; refine (radd_S HE.out hnbl es[j].key.1 es[j].key.2.1 es[j].key.2.2 (HRj.out.new HE.out.chg) hkj).mono ?_; rintro x w8 ⟨rfl, hs8⟩; rw [← HNx.out] at hs8; have HS8 := Lib.hid hs8; clear hs8)
                  go_roundw
                  · exact ⟨j + 1, by omega, by push_cast; rfl, HS8.out⟩
                  · simp [intOf]; omega
                · have hje : j = es.length := by omega
                  subst hje
                  have HBits : Hid (addAll (List.replicate nb 0) ((L.take es.length).map (·.key)) = bitsB L) := by
                    unfold Hid
                    rw [← HLen.out, List.take_length]
                    have h9 := bits_keys L
                    rw [HLen.out, Hu.out, Hnb.out] at h9
                    exact h9
                  have hs8 := HE.out
                  rw [HBits.out] at hs8
                  have HS8 := Lib.hid hs8
                  clear hs8 HE
                  obtain ⟨bits, hbits⟩ : ∃ bits, bitsB L = bits := ⟨_, rfl⟩
                  rw [hbits] at HS8 HBi
                  obtain ⟨P, hP⟩ : ∃ P, putB nb 4 = P := ⟨_, rfl⟩
                  obtain ⟨P1, hP1⟩ : ∃ P1, putB B.length 4 = P1 := ⟨_, rfl⟩
                  obtain ⟨P3, hP3⟩ : ∃ P3, putB C.length 4 = P3 := ⟨_, rfl⟩
                  have p0 : P.length = 4 := by rw [← hP, putB_len]
                  have p1 : P1.length = 4 := by rw [← hP1, putB_len]
                  have p3 : P3.length = 4 := by rw [← hP3, putB_len]
                  have hbl9 : bits.length = nb := HBi.out
                  obtain ⟨D1, hD1⟩ : ∃ D1, D1 = C ++ P := ⟨_, rfl⟩
                  obtain ⟨D2, hD2⟩ : ∃ D2, D2 = D1 ++ bits := ⟨_, rfl⟩
                  obtain ⟨D3, hD3⟩ : ∃ D3, D3 = D2 ++ P1 := ⟨_, rfl⟩
                  obtain ⟨D4, hD4⟩ : ∃ D4, D4 = D3 ++ P3 := ⟨_, rfl⟩
                  obtain ⟨sm, hsm⟩ : ∃ sm, sumB D4 = sm := ⟨_, rfl⟩
                  have hsm0 : sm < 4294967296 := by rw [← hsm]; exact sumB_lt _
                  obtain ⟨P5, hP5⟩ : ∃ P5, putB sm 4 = P5 := ⟨_, rfl⟩
                  have p5 : P5.length = 4 := by rw [← hP5, putB_len]
                  obtain ⟨D5, hD5⟩ : ∃ D5, D5 = D4 ++ P5 := ⟨_, rfl⟩
                  have HBd : Hid (buildB L = D5) := by
                    unfold Hid
                    rw [hD5, ← hP5, ← hsm]
                    refine allB_eq (n := es.length) (b := B) (x := G4 ++ X) (c := C) (d1 := D1) (d2 := D2) (d3 := D3) HLen.out (by rw [HLen.out] at HB0; exact HB0.out.symm) ?_ (by rw [HC.out, HC1.out, List.append_assoc]) ?_ ?_ ?_ ?_
                    · have h9 := HX0.out
                      rw [HLen.out] at h9
                      exact h9
                    · rw [hbits, hbl9, hP]; exact hD1
                    · rw [hbits]; exact hD2
                    · rw [hP1]; exact hD3
                    · rw [hP3]; exact hD4
                  have q1 : D1.length = C.length + 4 := by rw [hD1, List.length_append]; omega
                  have q2 : D2.length = C.length + 4 + nb := by rw [hD2, List.length_append]; omega
                  have q3 : D3.length = C.length + 8 + nb := by rw [hD3, List.length_append]; omega
                  have q4 : D4.length = C.length + 12 + nb := by rw [hD4, List.length_append]; omega
                  have q5 : D5.length = C.length + 16 + nb := by rw [hD5, List.length_append]; omega
                  have t1 : Hid (D1.length ≤ 140737488355328) := by unfold Hid; omega
                  have t2 : Hid (D2.length ≤ 140737488355328) := by unfold Hid; omega
                  have t3 : Hid (D3.length ≤ 140737488355328) := by unfold Hid; omega
                  have t4 : Hid (D4.length ≤ 140737488355328) := by unfold Hid; omega
                  have t5 : Hid (D5.length ≤ 140737488355328) := by unfold Hid; omega
                  have n1 : Hid (nb < 9223372036854775808) := by unfold Hid; omega
                  have n2 : Hid (B.length < 9223372036854775808) := by unfold Hid; omega
                  have n3 : Hid (C.length < 9223372036854775808) := by unfold Hid; omega
                  have n4 : Hid (sm < 9223372036854775808) := by unfold Hid; omega
                  have hwsm : IntKind.i64.wrap (sm : Int) = sm := by rw [IntKind.wrap_i64]; omega
                  have HP := Lib.hid hP; have HP1 := Lib.hid hP1; have HP3 := Lib.hid hP3; have HP5 := Lib.hid hP5; have Hsm := Lib.hid hsm
                  have HD1 := Lib.hid hD1; have HD2 := Lib.hid hD2; have HD3 := Lib.hid hD3; have HD4 := Lib.hid hD4; have HD5 := Lib.hid hD5
                  clear p0 p1 p3 p5 hbl9 q1 q2 q3 q4 q5 hbits hP hP1 hP3 hP5 hsm hsm0 hD1 hD2 hD3 hD4 hD5
                  go_upto_region 44 with fail
                  refine wp_region_held_drew (S := fun w' => w'.cell? ⟨h + 1, 0, none⟩ = some (.slice (some ⟨h, 0, none⟩) nb nb)) (by kernel_rfl) HS8.out.rfilt.head ?_
                  intro hS0
                  refine rgn_take (i := 0) (v := ?rv1) rfl (by kernel_rfl) (by kernel_rfl) (by kernel_rfl) (fun _ _ _ h => h) (by rfl) ?rh1 (by assumption) ?rr1
                  case rh1 => (intro w hSw; (try dsimp only at hSw); go_simp; try with_reducible rfl)
                  simp only [Act.put, List.setIfInBounds_toArray, List.set_cons_zero, List.set_cons_succ]
                  refine rgn_take (i := 1) (v := ?rv2) rfl (by kernel_rfl) (by kernel_rfl) (by kernel_rfl) (fun _ _ _ h => h) (by rfl) ?rh2 (by assumption) ?rr2
                  case rh2 => (intro w hSw; (try dsimp only at hSw); go_simp; try with_reducible rfl)
                  simp only [Act.put, List.setIfInBounds_toArray, List.set_cons_zero, List.set_cons_succ]
                  refine rgn_take (i := 2) (v := ?rv3) rfl (by kernel_rfl) (by kernel_rfl) (by kernel_rfl) (fun _ _ _ h => h) (by rfl) ?rh3 (by assumption) ?rr3
                  case rh3 => (intro w hSw; (try dsimp only at hSw); go_simp; try with_reducible rfl)
                  simp only [Act.put, List.setIfInBounds_toArray, List.set_cons_zero, List.set_cons_succ]
                  refine rgn_take (i := 3) (v := ?rv4) rfl (by kernel_rfl) (by kernel_rfl) (by kernel_rfl) (fun _ _ _ h => h) (by rfl) ?rh4 (by assumption) ?rr4
                  case rh4 => (intro w hSw; (try dsimp only at hSw); go_simp; try with_reducible rfl)
                  simp only [Act.put, List.setIfInBounds_toArray, List.set_cons_zero, List.set_cons_succ]
                  refine rgn_take (i := 4) (v := ?rv5) rfl (by kernel_rfl) (by kernel_rfl) (by kernel_rfl) (fun _ _ _ h => h) (by rfl) ?rh5 (by assumption) ?rr5
                  case rh5 => (intro w hSw; (try dsimp only at hSw); go_simp; try with_reducible rfl)
                  simp only [Act.put, List.setIfInBounds_toArray, List.set_cons_zero, List.set_cons_succ]
                  refine rgn_take (i := 5) (v := ?rv6) rfl (by kernel_rfl) (by kernel_rfl) (by kernel_rfl) (fun _ _ _ h => h) (by rfl) ?rh6 (by assumption) ?rr6
                  case rh6 => (intro w hSw; (try dsimp only at hSw); go_simp; try with_reducible rfl)
                  simp only [Act.put, List.setIfInBounds_toArray, List.set_cons_zero, List.set_cons_succ]
                  refine rgn_take (i := 8) (v := ?rv7) rfl (by kernel_rfl) (by kernel_rfl) (by kernel_rfl) (fun _ _ _ h => h) (by rfl) ?rh7 (by assumption) ?rr7
                  case rh7 => (intro w hSw; (try dsimp only at hSw); go_simp; try with_reducible rfl)
                  simp only [Act.put, List.setIfInBounds_toArray, List.set_cons_zero, List.set_cons_succ]
                  refine rgn_take (i := 9) (v := ?rv8) rfl (by kernel_rfl) (by kernel_rfl) (by kernel_rfl) (fun _ _ _ h => h) (by rfl) ?rh8 (by assumption) ?rr8
                  case rh8 => (intro w hSw; (try dsimp only at hSw); go_simp; try with_reducible rfl)
                  simp only [Act.put, List.setIfInBounds_toArray, List.set_cons_zero, List.set_cons_succ]
                  refine rgn_take (i := 10) (v := ?rv9) rfl (by kernel_rfl) (by kernel_rfl) (by kernel_rfl) (fun _ _ _ h => h) (by rfl) ?rh9 (by assumption) ?rr9
                  case rh9 => (intro w hSw; (try dsimp only at hSw); go_simp; try with_reducible rfl)
                  simp only [Act.put, List.setIfInBounds_toArray, List.set_cons_zero, List.set_cons_succ]
                  refine rgn_take (i := 11) (v := ?rv10) rfl (by kernel_rfl) (by kernel_rfl) (by kernel_rfl) (fun _ _ _ h => h) (by rfl) ?rh10 (by assumption) ?rr10
                  case rh10 => (intro w hSw; (try dsimp only at hSw); go_simp; try with_reducible rfl)
                  simp only [Act.put, List.setIfInBounds_toArray, List.set_cons_zero, List.set_cons_succ]
                  refine rgn_call (i := 6) rfl (by kernel_rfl) (fun K hK => ?_)
                  go_simp
                  go_at_call 74; refine (rnumS nb 4 4 rfl n1.out (by omega) (by omega) w _ _ HS8.out.drew P HP.out).mono ?_; rintro x w9 ⟨A9, c9, rfl, hs9⟩; have HS9 := Lib.hid hs9; clear hs9
                  refine hK.out _ _ HS9.out.up2.rfilt.head (fun hS0 => ?_)
                  clear hK K
                  refine rgn_call (i := 7) rfl (by kernel_rfl) (fun K hK => ?_)
                  refine step_appB rfl (.tmp 232) (.tmp 238) rfl A6 c6 C rfl HS9.out.up3 A9 c9 P rfl HS9.out.row_rdK D1 HD1.out t1.out ?_; intro A10 c10 w10 hs10; have HS10 := Lib.hid hs10.drop2; clear hs10
                  refine hK.out _ _ HS10.out.up2.rfilt.head (fun hS0 => ?_)
                  clear hK K
                  try simp only [Act.put, List.setIfInBounds_toArray, List.set_cons_zero, List.set_cons_succ]
                  refine rgn_call (i := 12) rfl (by kernel_rfl) (fun K hK => ?_)
                  refine step_appB rfl (.tmp 239) (.tmp 243) rfl A10 c10 D1 rfl HS10.out (some ⟨h, 0, none⟩) nb bits (by rw [HBi.out]; rfl) HS10.out.up2.rfilt.rd D2 HD2.out t2.out ?_; intro A11 c11 w11 hs11; have HS11 := Lib.hid hs11; clear hs11
                  refine hK.out _ _ HS11.out.up2.rfilt.head (fun hS0 => ?_)
                  clear hK K
                  try simp only [Act.put, List.setIfInBounds_toArray, List.set_cons_zero, List.set_cons_succ]
                  refine rgn_take (i := 13) (v := ?rv14) rfl (by kernel_rfl) (by kernel_rfl) (by kernel_rfl) (fun _ _ _ h => h) (by rfl) ?rh14 (by assumption) ?rr14
                  case rh14 => (intro w hSw; (try dsimp only at hSw); go_simp; try with_reducible rfl)
                  simp only [Act.put, List.setIfInBounds_toArray, List.set_cons_zero, List.set_cons_succ]
                  refine wpAnyH_done (by kernel_rfl) ?_ _
                  have HS12 := Lib.hid HS11.out.left
                  clear hS0
                  go_wp2_with (first
                    | (go_at_call 74; (with_reducible refine (rnumS B.length 4 4 rfl n2.out (by omega) (by omega) w _ _ HS12.out P1 HP1.out).mono ?_); rintro x w13 ⟨A13, c13, rfl, hs13⟩; have HS13 := Lib.hid hs13; clear hs13)
                    | (at_builtin; refine wpList_appB rfl (.tmp 245) (.tmp 247) rfl A11 c11 D2 rfl (by have h9 := HS13.out; rw [← star_emp (Row 5 1 (.slice A11 D2.length c11) D2.length (D2.map bv))] at h9; exact h9.up2) A13 c13 P1 rfl HS13.out.row_rdK D3 HD3.out t3.out ?_; intro A14 c14 w14 hs14; have HS14 := Lib.hid hs14.left; clear hs14)
                    | (go_at_call 74; (with_reducible refine (rnumS C.length 4 4 rfl n3.out (by omega) (by omega) w _ _ HS14.out P3 HP3.out).mono ?_); rintro x w15 ⟨A15, c15, rfl, hs15⟩; have HS15 := Lib.hid hs15; clear hs15)
                    | (at_builtin; refine wpList_appB rfl (.tmp 248) (.tmp 250) rfl A14 c14 D3 rfl (by have h9 := HS15.out; rw [← star_emp (Row 5 1 (.slice A14 D3.length c14) D3.length (D3.map bv))] at h9; exact h9.up2) A15 c15 P3 rfl HS15.out.row_rdK D4 HD4.out t4.out ?_; intro A16 c16 w16 hs16; have HS16 := Lib.hid hs16.left; have HR16 : Hid (Rd w16 A16 D4) := hs16.row_rdK; clear hs16)
                    | (go_at_call 77; refine (rsum1_any A16 c16 D4 w16 HR16.out t4.out).mono ?_; rintro x w17 ⟨rfl, rfl⟩; rw [Hsm.out])
                    | (go_at_call 74; (with_reducible refine (rnumS sm 4 4 rfl n4.out (by omega) (by omega) w _ _ HS16.out P5 HP5.out).mono ?_); rintro x w18 ⟨A18, c18, rfl, hs18⟩; have HS18 := Lib.hid hs18; clear hs18)
                    | (at_builtin; refine wpList_appB rfl (.tmp 252) (.tmp 256) rfl A16 c16 D4 rfl (by have h9 := HS18.out; rw [← star_emp (Row 5 1 (.slice A16 D4.length c16) D4.length (D4.map bv))] at h9; exact h9.up2) A18 c18 P5 rfl HS18.out.row_rdK D5 HD5.out t5.out ?_; intro A19 c19 w19 hs19; have HS19 := Lib.hid hs19; clear hs19))
                  go_ret2
                  have hfin : Sat w (Row 5 1 (.slice A19 (buildB L).length c19) (buildB L).length ((buildB L).map bv) * Emp) w19 := by
                    rw [HBd.out]
                    exact HS19.out.left.of (star_emp _).symm
                  obtain ⟨Ax, cx9, e9, g1, g2⟩ := hfin.row_sl
                  injection e9 with e9 _ e8
                  subst e9; subst e8
                  first
                    | exact .inr ⟨rfl, _, _, by rw [HBd.out]; rfl, g1, g2, hfin⟩
                    | exact ⟨_, _, by rw [HBd.out]; rfl, g1, g2, hfin⟩
end Go.Proofs.Ytaoenbjfkahdjaa
