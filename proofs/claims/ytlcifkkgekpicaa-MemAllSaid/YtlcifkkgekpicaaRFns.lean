/- The document's table: Bytes, Level, Range, Get. -/
import Derived.Test.YtlcifkkgekpicaaRPut
namespace Go.Proofs.Ytlcifkkgekpicaa
open Go.RowKit
set_option linter.unusedVariables false

theorem byt_take {L : List Ent} {k : Nat} (h : k < L.length) : byt (L.take (k + 1)) = byt (L.take k) + (L[k].key.length + L[k].value.length) := by
  rw [List.take_succ_eq_append_getElem h, byt_app]
  rfl
theorem byt_bd {L : List Ent} {m : Nat} (h : ∀ x ∈ L, x.key.length + x.value.length ≤ m) : byt L ≤ L.length * m := by
  induction L with
  | nil => simp [byt]
  | cons x L ih =>
    have h1 := ih fun y hy => h y (List.mem_cons_of_mem _ hy)
    have h2 := h x List.mem_cons_self
    show x.key.length + x.value.length + byt L ≤ _
    rw [List.length_cons, Nat.add_mul]
    omega
set_option maxHeartbeats 1000000 in
theorem rbytes_any (r : Nat) (es : List En) (hs : List Nat) (w0 w : World) (F : SP) (h : Sat w0 (RTab r es hs * F) w) (hn : es.length ≤ 1000) (hb : ∀ x ∈ es, x.key.2.2.length ≤ 1000000 ∧ x.value.2.2.length ≤ 1000000) :
    Calls Try.prog 26 #[.pointer (some ⟨r, 0, none⟩)] w fun x w' => x = .returned (.int .i64 (byt (es.map En.ent) : Int)) ∧ Chg No w w' := by
  obtain ⟨vL, vH, h0⟩ := h.rtab
  obtain ⟨LA, lc, rfl, hl1, hl2, hl3⟩ := ((h0.of (rtab_d ..)).up2).row_form
  have HS := Lib.hid h0
  have HB := Lib.hid hb
  unfold maxLen at hl2
  obtain ⟨L, hL⟩ : ∃ L, L = es.map En.ent := ⟨_, rfl⟩
  have hLl : L.length = es.length := by rw [hL]; simp
  have HLl := Lib.hid hLl
  have HLi : Hid (∀ i (h : i < L.length) (h' : i < es.length), L[i] = es[i].ent) := by intro i h h'; subst hL; simp
  have HBd : Hid (∀ k, byt (L.take k) ≤ 1000 * 2000000) := by
    intro k
    have h1 := byt_bd (L := L.take k) (m := 2000000) (fun x hx => by
      have hx := List.mem_of_mem_take hx
      rw [hL] at hx
      obtain ⟨y, hy, rfl⟩ := List.mem_map.1 hx
      have := hb y hy
      show y.key.2.2.length + y.value.2.2.length ≤ _
      omega)
    have h2 : (L.take k).length ≤ 1000 := by rw [List.length_take]; omega
    exact Nat.le_trans h1 (Nat.mul_le_mul_right _ h2)
  rw [← hL]
  have c0 := h0.rtabL
  clear h h0 hb hl3 hL hLl
  go_enter Try.func26, Try.ntmps26
  go_wp2_with fail
  go_loopw [3, 4] (fun n i wr => ∃ k : Nat, k ≤ es.length ∧ i = .int .i64 k ∧ n = .int .i64 (byt (L.take k) : Int) ∧ Hid (Chg No w wr)) (fun _ i _ => es.length - (intOf i).toNat)
  case atStart => exact ⟨0, by omega, rfl, rfl, Chg.refl _ _⟩
  case round =>
    obtain ⟨k, hk, rfl, rfl, HD⟩ := hrel
    have c1 := HD.out.cell c0 id
    by_cases hlt : k < es.length
    · obtain ⟨lb, lo, hA, hq⟩ := ents_at (HS.out.rtabRd) (by omega)
      obtain ⟨z0, z1, z2, z3⟩ := hq k hlt
      have a0 := HD.out.cell z0 id; have a1 := HD.out.cell z1 id
      subst hA
      unfold slv' at a0 a1
      have hkL : k < L.length := by rw [HLl.out]; exact hlt
      have HN : Hid (byt (L.take (k + 1)) = byt (L.take k) + (es[k].key.2.2.length + es[k].value.2.2.length)) := by
        unfold Hid
        rw [byt_take hkL, HLi.out k hkL hlt]
        rfl
      have hbd := HBd.out k
      have hbe := HB.out es[k] (List.getElem_mem hlt)
      obtain ⟨q, hqq⟩ : ∃ q, q = byt (L.take k) := ⟨_, rfl⟩
      rw [← hqq] at hbd
      rw [← hqq]
      have HQ := Lib.hid hqq
      have s1 : IntKind.i64.wrap ((q : Int) + (es[k].key.2.2.length : Int)) = (q : Int) + es[k].key.2.2.length := by rw [IntKind.wrap_i64]; omega
      have s2 : IntKind.i64.wrap ((q : Int) + (es[k].key.2.2.length : Int) + (es[k].value.2.2.length : Int)) = (q : Int) + es[k].key.2.2.length + es[k].value.2.2.length := by rw [IntKind.wrap_i64]; omega
      clear hq hqq z0 z1 z2 z3
      go_wp2_with fail
      go_quiet (fail)
      clear s1 s2
      go_wp2_with fail
      go_roundw
      · exact ⟨k + 1, by omega, by push_cast; rfl, by rw [HN.out, ← HQ.out]; push_cast; congr 1; omega, HD.out.drewN _⟩
      · simp [intOf]; omega
    · have HN : Hid (L.take k = L) := List.take_of_length_le (by rw [HLl.out]; omega)
      go_wp2_with fail
      go_ret
      exact ⟨by rw [HN.out]; rfl, HD.out⟩
/-- What a row reads as. -/
def RowE (w0 w : World) (S : SP) (L : List Ent) (x : Ending) (w' : World) : Prop := ∃ (fs : List En) (A : Option Addr) (c : Nat), x = .returned (.slice A fs.length c) ∧ fs.map En.ent = L ∧ fs.length ≤ c ∧ c ≤ maxLen ∧ RdV w' A (fs.flatMap enV) ∧ EnsR w' fs ∧ Sat w0 S w'
/-- What holds in the rounds of a row that is made. -/
structure Mst (w0 : World) (r : Nat) (vL vH : Value) (es : List En) (hs : List Nat) (F : SP) (L : List Ent) (fs : List En) (A : Option Addr) (c k : Nat) (wr : World) : Prop where
  eq : fs.map En.ent = L
  mem : ∀ x ∈ fs, x ∈ es
  len : fs.length ≤ k
  sat : Sat w0 (Row 24 4 (.slice A fs.length c) fs.length (fs.flatMap enV) * (RTabC r vL vH es hs * F)) wr
theorem Mst.done {w0 w wr : World} {r : Nat} {vL vH : Value} {es : List En} {hs : List Nat} {F : SP} {L : List Ent} {fs : List En} {A : Option Addr} {c k : Nat} (h : Mst w0 r vL vH es hs F L fs A c k wr) :
    RowE w0 w (RTab r es hs * F) L (.returned (.slice A fs.length c)) wr := by
  obtain ⟨A', c', e, h1, h2, _⟩ := h.sat.row_form
  injection e with e1 _ e2
  subst e1; subst e2
  exact ⟨fs, A, c, rfl, h.eq, h1, h2, Sat.row_rdK (h := h.sat), fun x hx => h.sat.right.rtabEnt (h.mem x hx), h.sat.right.rtabI⟩
/-- The level's entries, as far as they have come. -/
def levT (i : Int) (es : List En) (hs : List Nat) (k : Nat) : List Ent := ((((absR es hs).take k).filter fun p => decide (i < (p.2 : Int)))).map (·.1)
theorem levT_next {i : Int} {es : List En} {hs : List Nat} {k : Nat} (h : k < es.length) (h' : k < hs.length) : levT i es hs (k + 1) = if i < (hs[k] : Int) then levT i es hs k ++ [es[k].ent] else levT i es hs k := by
  unfold levT
  have hl : k < (absR es hs).length := by unfold absR; simp; omega
  have he : (absR es hs)[k] = (es[k].ent, hs[k]) := by
    have h1 : (absR es hs)[k]? = some (es[k].ent, hs[k]) := by
      unfold absR
      rw [List.getElem?_zip_eq_some]
      exact ⟨by simp [h], by simp [h']⟩
    rw [List.getElem?_eq_getElem hl] at h1
    exact Option.some.inj h1
  rw [List.take_succ_eq_append_getElem hl, List.filter_append, List.map_append, he]
  by_cases q : i < (hs[k] : Int)
  · rw [if_pos q, List.filter_cons, if_pos (by simpa using q)]; rfl
  · rw [if_neg q, List.filter_cons, if_neg (by simpa using q)]; simp
theorem snoc_len (fs : List En) (y : En) : (fs ++ [y]).length = fs.length + 1 := by simp
theorem info_entry2 : (Try.prog.info? 24).map (fun i => (i.zero, i.size, i.bytes)) = some (some (.agg #[.slice none 0 0, .slice none 0 0, .int .i64 0, .bool false]), 4, 64) := by kernel_rfl
set_option maxHeartbeats 2000000 in
theorem rlevel_any (r : Nat) (es : List En) (hs : List Nat) (i : Int) (w0 w : World) (F : SP) (h : Sat w0 (RTab r es hs * F) w) (hl : es.length = hs.length) (hn : es.length ≤ 1000) (hi : -9223372036854775808 ≤ i ∧ i ≤ 9223372036854775807) :
    Calls Try.prog 31 #[.pointer (some ⟨r, 0, none⟩), .int .i64 i] w (RowE w0 w (RTab r es hs * F) (if 0 ≤ i then levT i es hs es.length else [])) := by
  obtain ⟨vL, vH, h0⟩ := h.rtab
  obtain ⟨LA, lc, rfl, hl1, hl2, hl3⟩ := ((h0.of (rtab_d ..)).up2).row_form
  obtain ⟨HA, hc, rfl, hh1, hh2, hh3⟩ := ((h0.of (rtab_d ..)).up3).row_form
  have HS := Lib.hid h0
  have HLen := Lib.hid hl
  have hlh : es.length ≤ hs.length := by omega
  unfold maxLen at hl2 hh2
  obtain ⟨i0, hi0, hz0, hz1, hz2⟩ := info_parts info_entry2
  have Hi0 := Lib.hid hi0; have Hz0 := Lib.hid hz0; have Hz1 := Lib.hid hz1; have Hz2 := Lib.hid hz2
  clear h h0 hl hl3 hh3 hi0 hz0 hz1 hz2
  by_cases hneg : 0 ≤ i
  · rw [if_pos hneg]
    have hnn : ¬ i < 0 := by omega
    go_enter Try.func31, Try.ntmps31
    go_wp2_with fail
    go_loopw [5, 6] (fun out k wr => ∃ (q : Nat) (fs : List En) (A : Option Addr) (c : Nat), q ≤ es.length ∧ k = .int .i64 q ∧ out = .slice A fs.length c ∧ Hid (Mst w0 r (.slice LA es.length lc) (.slice HA hs.length hc) es hs F (levT i es hs q) fs A c q wr)) (fun _ k _ => es.length - (intOf k).toNat)
    case atStart => exact ⟨0, [], none, 0, by omega, rfl, rfl, by unfold levT; rfl, by simp, by simp, HS.out.row_nil _ 4⟩
    case round =>
      obtain ⟨q, fs, A, c, hq, rfl, rfl, HD⟩ := hrel
      have c0 := HD.out.sat.up2.rtabL
      have c1 := HD.out.sat.up2.rtabH
      by_cases hlt : q < es.length
      · have hlt2 : q < hs.length := by omega
        obtain ⟨lb, lo, hA, hqq⟩ := ents_at (HD.out.sat.up2.rtabRd) (by omega)
        obtain ⟨a0, a1, a2, a3⟩ := hqq q hlt
        subst hA
        unfold slv' at a0 a1
        obtain ⟨hb, ho, hHA, b0⟩ := RdV.get (HD.out.sat.up2.rtabRh) (j := q) (by unfold i64s; simpa using hlt2)
        subst hHA
        have hb1 : (i64s hs)[q]'(by unfold i64s; simpa using hlt2) = .int .i64 (hs[q] : Int) := by unfold i64s; simp
        rw [hb1] at b0
        have HN := Lib.hid (levT_next (i := i) hlt hlt2)
        have hfl : fs.length ≤ 1000 := by have := HD.out.len; omega
        clear hqq hb1
        by_cases hgt : i < (hs[q] : Int)
        · have HN2 : Hid (levT i es hs (q + 1) = levT i es hs q ++ [es[q].ent]) := by unfold Hid; rw [HN.out, if_pos hgt]
          go_wp2_with (at_builtin; refine wpList_appS rfl (.tmp 29) (.tmp 37) 25 rfl 24 i0 _ 4 64 Try.underlying25 Hi0.out Hz0.out Hz1.out Hz2.out rfl (by decide) (.slice A fs.length c) fs.length (fs.flatMap enV) rfl w0 _ (by exact HD.out.sat.alloc' _) (some ⟨wr.heap.size, 0, none⟩) 1 1 (enV es[q]) rfl (lit_rdv _ _ _) rfl (by have := ent_ones [es[q]]; simpa using this) (by unfold maxLen; omega) (by omega) ?_; intro A3 c3 w7 hs7; have HS7 := Lib.hid hs7; clear hs7)
          go_roundw
          · exact ⟨q + 1, fs ++ [es[q]], A3, c3, by omega, by push_cast; rfl, by rw [snoc_len], by rw [HN2.out, List.map_append, HD.out.eq]; rfl, fun x hx => (List.mem_append.1 hx).elim (HD.out.mem x) (fun hx => by simp at hx; subst hx; exact List.getElem_mem _), by have := HD.out.len; rw [snoc_len]; omega, by rw [snoc_len, ents_app]; simpa using HS7.out⟩
          · simp [intOf]; omega
        · have HN2 : Hid (levT i es hs (q + 1) = levT i es hs q) := by unfold Hid; rw [HN.out, if_neg hgt]
          go_wp2_with fail
          go_roundw
          · exact ⟨q + 1, fs, A, c, by omega, by push_cast; rfl, rfl, by rw [HN2.out]; exact HD.out.eq, HD.out.mem, by have := HD.out.len; omega, HD.out.sat⟩
          · simp [intOf]; omega
      · have hqe : q = es.length := by omega
        subst hqe
        go_wp2_with fail
        go_ret
        exact HD.out.done
  · rw [if_neg hneg]
    have hnn : i < 0 := by omega
    go_enter Try.func31, Try.ntmps31
    go_wp2_with fail
    go_loopw [5, 6] (fun out k wr => k = .int .i64 0 ∧ out = .slice none 0 0 ∧ Hid (wr = w)) (fun _ _ _ => 0)
    case atStart => exact ⟨rfl, rfl, rfl⟩
    case round =>
      obtain ⟨rfl, rfl, HD⟩ := hrel
      have c0 : wr.cell? ⟨r, 0, none⟩ = some (.slice LA es.length lc) := by rw [HD.out]; exact HS.out.rtabL
      by_cases hlt : 0 < es.length
      · go_wp2_with fail
        go_ret
        exact ⟨[], none, 0, rfl, rfl, Nat.zero_le _, Nat.zero_le _, RdV.nil _ _, fun e he => by simp at he, by rw [HD.out]; exact HS.out.rtabI⟩
      · go_wp2_with fail
        go_ret
        exact ⟨[], none, 0, rfl, rfl, Nat.zero_le _, Nat.zero_le _, RdV.nil _ _, fun e he => by simp at he, by rw [HD.out]; exact HS.out.rtabI⟩
end Go.Proofs.Ytlcifkkgekpicaa
