/- The document's space in memory: check. -/
import Derived.Test.YtjmapbhgjhlefaaQ12
import Derived.Test.YtjmapbhgjhlefaaQSpr2
namespace Go.Proofs.Ytjmapbhgjhlefaa
open Go.RowKit
set_option linter.unusedVariables false
set_option maxRecDepth 100000

theorem nodup_inj {α : Type} {l : List α} (h : l.Nodup) {i j : Nat} (hi : i < l.length) (hj : j < l.length) (e : l[i] = l[j]) : i = j := by
  have h2 := List.pairwise_iff_getElem.1 h
  rcases Nat.lt_trichotomy i j with h3 | h3 | h3
  · exact absurd e (h2 i j hi hj h3)
  · exact h3
  · exact absurd e.symm (h2 j i hj hi h3)
def findB (fs : List Rf) (n : Int) : Bool := fs.any fun f => decide ((f.num : Int) = n)
def okA (fs : List Rf) (drop : List Int) (x : Fi) : Prop := (1 ≤ x.num ∧ x.num ≤ 2147483647 ∧ 1 ≤ x.blocks) ∧ (findB fs x.num = false ∨ x.num ∈ drop)
structure GoodA (fs : List Rf) (drop : List Int) (add : List Fi) : Prop where
  each : ∀ x ∈ add, okA fs drop x
  once : (add.map (·.num)).Nodup
structure GoodDr (fs : List Rf) (drop : List Int) : Prop where
  each : ∀ n ∈ drop, findB fs n = true
  once : drop.Nodup
section
variable {w0 w : World} {F : SP} {r N : Nat} {v : Value} {fs : List Rf} {S : Spc} {add : List Fi} {drop : List Int}
theorem findB_find (he : fs.map (·.num) = S.files.map (·.num)) (n : Int) : (S.find n).isSome = findB fs n := by
  unfold findB Spc.find
  have h1 : (fs.any fun f => decide ((f.num : Int) = n)) = (fs.map (·.num)).any fun (k : Nat) => decide ((k : Int) = n) := by rw [List.any_map]; rfl
  rw [h1, he, List.any_map, Bool.eq_iff_iff, List.find?_isSome]
  simp [List.any_eq_true]
theorem goodA_may (he : fs.map (·.num) = S.files.map (·.num)) : S.mayAdd drop [] add = true ↔ GoodA fs drop add := by
  rw [mayAdd_iff]
  constructor
  · rintro ⟨h1, h2⟩
    exact ⟨fun x hx => ⟨(h1 x hx).1, by rw [← findB_find he]; exact (h1 x hx).2.2⟩, h2⟩
  · rintro ⟨h1, h2⟩
    exact ⟨fun x hx => ⟨(h1 x hx).1, by simp, by rw [findB_find he]; exact (h1 x hx).2⟩, h2⟩
theorem goodD_may (he : fs.map (·.num) = S.files.map (·.num)) : S.mayDrop [] drop = true ↔ GoodDr fs drop := by
  rw [mayDrop_iff]
  constructor
  · rintro ⟨h1, h2⟩
    exact ⟨fun x hx => by rw [← findB_find he]; exact (h1 x hx).1, h2⟩
  · rintro ⟨h1, h2⟩
    exact ⟨fun x hx => ⟨by rw [findB_find he]; exact h1 x hx, by simp⟩, h2⟩
theorem GoodA.take (h : GoodA fs drop add) (i : Nat) : GoodA fs drop (add.take i) := ⟨fun x hx => h.each x (List.mem_of_mem_take hx), by rw [List.map_take]; exact h.once.sublist (List.take_sublist _ _)⟩
theorem GoodA.next {i : Nat} (h : GoodA fs drop (add.take i)) (hi : i < add.length) (hx : okA fs drop add[i]) (hn : ∀ j (hj : j < add.length), j < i → add[j].num ≠ add[i].num) : GoodA fs drop (add.take (i + 1)) := by
  rw [List.take_succ_eq_append_getElem hi]
  refine ⟨fun x hm => ?_, ?_⟩
  · rcases List.mem_append.1 hm with hm | hm
    · exact h.each x hm
    · rw [List.mem_singleton.1 hm]; exact hx
  · rw [List.map_append, List.nodup_append]
    refine ⟨h.once, by simp, fun a ha b hb => ?_⟩
    rw [List.map_cons, List.map_nil, List.mem_singleton] at hb
    subst hb
    obtain ⟨y, hy, rfl⟩ := List.mem_map.1 ha
    obtain ⟨j, hj, rfl⟩ := List.mem_iff_getElem.1 hy
    rw [List.length_take] at hj
    rw [List.getElem_take]
    exact hn j (by omega) (by omega)
theorem GoodDr.next {i : Nat} (h : GoodDr fs (drop.take i)) (hi : i < drop.length) (hx : findB fs drop[i] = true) (hn : drop[i] ∉ drop.take i) : GoodDr fs (drop.take (i + 1)) := by
  rw [List.take_succ_eq_append_getElem hi]
  refine ⟨fun x hm => ?_, ?_⟩
  · rcases List.mem_append.1 hm with hm | hm
    · exact h.each x hm
    · rw [List.mem_singleton.1 hm]; exact hx
  · rw [List.nodup_append]
    refine ⟨h.once, by simp, fun a ha b hb => ?_⟩
    rw [List.mem_singleton.1 hb]
    exact fun e => hn (e ▸ ha)
/-- At which place a file stands. -/
def findZ (fs : List Rf) (n : Int) : Int := if findB fs n = true then (fs.findIdx fun f => decide ((f.num : Int) = n) : Nat) else -1
theorem findZ_yes {n : Int} (h : findB fs n = true) : 0 ≤ findZ fs n := by unfold findZ; rw [if_pos h]; omega
theorem findZ_no {n : Int} (h : findB fs n = false) : findZ fs n = -1 := by unfold findZ; rw [if_neg (by rw [h]; simp)]
theorem findZ_at {n : Int} {i : Nat} (hi : i < fs.length) (h : (fs[i].num : Int) = n) (h2 : ∀ j (hj : j < fs.length), j < i → (fs[j].num : Int) ≠ n) : findB fs n = true ∧ findZ fs n = (i : Int) := by
  have h1 : findB fs n = true := by
    unfold findB
    rw [List.any_eq_true]
    exact ⟨fs[i], List.getElem_mem hi, decide_eq_true h⟩
  refine ⟨h1, ?_⟩
  unfold findZ
  rw [if_pos h1]
  congr 1
  rw [List.findIdx_eq hi]
  exact ⟨decide_eq_true h, fun j hj => decide_eq_false (h2 j (by omega) hj)⟩
theorem findZ_is {n : Int} (h : findB fs n = true) : ∃ i, ∃ hi : i < fs.length, findZ fs n = (i : Int) ∧ (fs[i].num : Int) = n := by
  have h2 : fs.findIdx (fun f => decide ((f.num : Int) = n)) < fs.length := by
    rw [List.findIdx_lt_length]
    unfold findB at h
    rw [List.any_eq_true] at h
    exact h
  refine ⟨_, h2, ?_, of_decide_eq_true (List.findIdx_getElem (w := h2))⟩
  unfold findZ
  rw [if_pos h]
theorem rfindZ_any (n : Int) (h : Sat w0 (RSp r N v fs * F) w) (hl : fs.length ≤ 1000000) :
    Calls Try.prog 42 #[.pointer (some ⟨r, 0, none⟩), .int .i64 n] w fun e w' => e = .returned (.int .i64 (findZ fs n)) ∧ w' = w := by
  refine (rfind_any n h hl).mono ?_
  rintro e w' ⟨z, rfl, rfl, h1⟩
  refine ⟨?_, rfl⟩
  rcases h1 with ⟨rfl, h2⟩ | ⟨i, hi, rfl, h2, h3⟩
  · rw [findZ_no]
    unfold findB
    rw [List.any_eq_false]
    exact fun f hf => by simpa using h2 f hf
  · rw [(findZ_at hi h2 h3).2]
theorem fi_all {w : World} {A : Option Addr} {l : List Fi} (h : RdV w A (l.flatMap fiI)) (hn : 0 < l.length) : ∃ b o, A = some ⟨b, o, none⟩ ∧ ∀ k (hk : k < l.length), w.cell? ⟨b, o + k * 3, none⟩ = some (.int .i64 l[k].num) ∧ w.cell? ⟨b, o + k * 3 + 1, none⟩ = some (.int .i64 l[k].first) ∧ w.cell? ⟨b, o + k * 3 + 2, none⟩ = some (.int .i64 l[k].blocks) := by
  obtain ⟨b, o, rfl, _⟩ := fi_get h hn
  refine ⟨b, o, rfl, fun k hk => ?_⟩
  obtain ⟨b', o', e, h2⟩ := fi_get h hk
  injection e with e
  injection e with e1 e2
  subst e1; subst e2
  exact h2
/-- What check answers. -/
def CheckZ (fs : List Rf) (add : List Fi) (drop : List Int) (z : Int) : Prop :=
  (z = 31 ∧ ¬ (GoodA fs drop add ∧ GoodDr fs drop)) ∨ (GoodA fs drop add ∧ GoodDr fs drop ∧ z = if (24 : Int) < (fs.length : Int) + add.length - drop.length then 32 else 0)
set_option maxHeartbeats 4000000 in
theorem rcheck_any (A1 A2 : Option Addr) (c1 c2 : Nat) (h : Sat w0 (RSp r N v fs * F) w) (hl : fs.length ≤ 1000000) (ha : RdV w A1 (add.flatMap fiI)) (hal : add.length ≤ 1000000) (hd : RdV w A2 (drop.map fun x => .int .i64 x)) (hdl : drop.length ≤ 1000000) (hdc : drop.length ≤ c2) :
    Calls Try.prog 74 #[.pointer (some ⟨r, 0, none⟩), .slice A1 add.length c1, .slice A2 drop.length c2] w fun e w' => ∃ z : Int, e = .returned (.int .i64 z) ∧ (∃ n, w' = w.drewN n) ∧ CheckZ fs add drop z := by
  have HS := Lib.hid h; have HA := Lib.hid ha; have HD := Lib.hid hd
  have HF : Hid (∀ (m : Nat) (n : Int), Calls Try.prog 42 #[.pointer (some ⟨r, 0, none⟩), .int .i64 n] (w.drewN m) fun e w' => e = .returned (.int .i64 (findZ fs n)) ∧ w' = w.drewN m) := fun m n => rfindZ_any n (h.drewN m) hl
  have HH : Hid (∀ (m : Nat) (n : Int), Calls Try.prog 75 #[.slice A2 drop.length c2, .int .i64 n] (w.drewN m) fun e w' => e = .returned (.bool (decide (n ∈ drop))) ∧ w' = w.drewN m) := fun m n => (rhas_any A2 c2 drop n _ (hd.drewN m) hdl).mono fun e w' ⟨h1, h2⟩ => ⟨h1, h2.symm⟩
  have HH2 : Hid (∀ (m i : Nat) (n : Int), i ≤ drop.length → Calls Try.prog 75 #[.slice A2 i c2, .int .i64 n] (w.drewN m) fun e w' => e = .returned (.bool (decide (n ∈ drop.take i))) ∧ w' = w.drewN m) := fun m i n hi => by
    have h9 := rhas_any A2 c2 (drop.take i) n (w.drewN m) (by rw [List.map_take]; exact (hd.drewN m).take i) (by rw [List.length_take]; omega)
    rw [List.length_take, Nat.min_eq_left hi] at h9
    exact h9.mono fun e w' ⟨h1, h2⟩ => ⟨h1, h2.symm⟩
  clear h ha hd
  go_enter Try.func74, Try.ntmps74
  go_wp2_with fail
  go_loopw [7] (fun iv wr => ∃ i n : Nat, i ≤ add.length ∧ iv = .int .i64 (i : Int) ∧ wr = w.drewN n ∧ Hid (GoodA fs drop (add.take i))) (fun iv _ => add.length - (intOf iv).toNat)
  case atStart => exact ⟨0, 0, by omega, rfl, rfl, ⟨by simp, by simp⟩⟩
  case round =>
    obtain ⟨i, n, hi, rfl, rfl, HG⟩ := hrel
    by_cases hlt : i < add.length
    · have hli : (i : Int) < add.length := by omega
      obtain ⟨b, o, rfl, hq⟩ := fi_all HA.out (by omega)
      have HQ := Lib.hid hq
      obtain ⟨q0, _, q2⟩ := hq i hlt
      have HBad : Hid (¬ okA fs drop add[i] → CheckZ fs add drop 31) := fun hz => .inl ⟨rfl, fun hg => hz (hg.1.each _ (List.getElem_mem hlt))⟩
      have HX : Hid (okA fs drop add[i] ↔ (1 ≤ add[i].num ∧ add[i].num ≤ 2147483647 ∧ 1 ≤ add[i].blocks) ∧ (findB fs add[i].num = false ∨ add[i].num ∈ drop)) := Iff.rfl
      obtain ⟨x, hx⟩ : ∃ x, x = add[i].num := ⟨_, rfl⟩
      obtain ⟨y, hy⟩ : ∃ y, y = add[i].blocks := ⟨_, rfl⟩
      rw [← hx] at q0 HX
      rw [← hy] at q2 HX
      have HXn := Lib.hid hx
      clear hx hy hq
      by_cases h1 : x < 1
      · go_wp2_with fail
        go_ret
        exact ⟨31, rfl, ⟨n, rfl⟩, HBad.out fun h => by have := (HX.out.1 h).1.1; omega⟩
      by_cases h2 : 2147483648 ≤ x
      · go_wp2_with fail
        go_ret
        exact ⟨31, rfl, ⟨n, rfl⟩, HBad.out fun h => by have := (HX.out.1 h).1.2.1; omega⟩
      by_cases h3 : y < 1
      · go_wp2_with fail
        go_ret
        exact ⟨31, rfl, ⟨n, rfl⟩, HBad.out fun h => by have := (HX.out.1 h).1.2.2; omega⟩
      have HF2 := Lib.hid (HF.out n x)
      have HH3 := Lib.hid (HH.out n x)
      by_cases h4 : findB fs x = true ∧ x ∉ drop
      · obtain ⟨h4, h5⟩ := h4
        have HNo : Hid (¬ okA fs drop add[i]) := fun h => by
          rcases (HX.out.1 h).2 with h | h
          · rw [h4] at h; cases h
          · exact h5 h
        have hz := findZ_yes h4
        have h6 : decide (x ∈ drop) = false := decide_eq_false h5
        rw [h6] at HH3
        clear h4 h5 h6
        generalize findZ fs x = z at *
        go_wp2_with (first
          | (go_at_call 42; (with_reducible refine HF2.out.mono ?_); rintro e wx ⟨rfl, rfl⟩)
          | (go_at_call 75; (with_reducible refine HH3.out.mono ?_); rintro e wx ⟨rfl, rfl⟩))
        go_ret
        exact ⟨31, rfl, ⟨n, rfl⟩, HBad.out HNo.out⟩
      · have hor : findB fs x = false ∨ (findB fs x = true ∧ x ∈ drop) := by
          cases h7 : findB fs x with
          | false => exact .inl rfl
          | true => exact .inr ⟨rfl, Decidable.byContradiction fun h8 => h4 ⟨h7, h8⟩⟩
        have HYes : Hid (okA fs drop add[i]) := HX.out.2 ⟨by omega, by
          rcases hor with h | h
          · exact .inl h
          · exact .inr h.2⟩
        clear h4
        rcases hor with h4 | ⟨h4, h5⟩
        · have hz : findZ fs x < 0 := by rw [findZ_no h4]; omega
          clear h4
          generalize findZ fs x = z at *
          go_wp2_with (first
            | (go_at_call 42; (with_reducible refine HF2.out.mono ?_); rintro e wx ⟨rfl, rfl⟩)
            | (go_at_call 75; (with_reducible refine HH3.out.mono ?_); rintro e wx ⟨rfl, rfl⟩))
          go_loopw [8] (fun kv wr => ∃ k m : Nat, k ≤ i ∧ kv = .int .i64 (k : Int) ∧ wr = w.drewN m ∧ Hid (∀ j (hj : j < add.length), j < k → add[j].num ≠ x)) (fun kv _ => i - (intOf kv).toNat)
          case atStart => exact ⟨0, n, by omega, rfl, rfl, fun j hj h => absurd h (by omega)⟩
          case round =>
            obtain ⟨k, m, hk, rfl, rfl, HK⟩ := hrel
            by_cases hki : k < i
            · have hki2 : (k : Int) < i := by omega
              obtain ⟨q3, _, _⟩ := HQ.out k (by omega)
              by_cases hyx : add[k].num = x
              · have HB2 : Hid (CheckZ fs add drop 31) := .inl ⟨rfl, fun hg => by
                  have h8 : (add.map (·.num))[k]'(by rw [List.length_map]; omega) = (add.map (·.num))[i]'(by rw [List.length_map]; omega) := by
                    rw [List.getElem_map, List.getElem_map, hyx, HXn.out]
                  have := nodup_inj hg.1.once _ _ h8
                  omega⟩
                rw [hyx] at q3
                clear hyx
                go_wp2_with fail
                go_quiet (fail)
                go_wp2_with fail
                go_ret
                exact ⟨31, rfl, ⟨_, drewN_two _ _ _⟩, HB2.out⟩
              · have HYX : Hid (add[k].num ≠ x) := hyx
                obtain ⟨y2, hy2⟩ : ∃ y2, y2 = add[k].num := ⟨_, rfl⟩
                rw [← hy2] at q3 hyx
                clear hy2
                go_wp2_with fail
                go_quiet (fail)
                go_wp2_with fail
                go_roundw
                · refine ⟨k + 1, _, by omega, by go_num, rfl, fun j hj h => ?_⟩
                  by_cases e : j = k
                  · subst e; exact HYX.out
                  · exact HK.out j hj (by omega)
                · simp [intOf]; omega
            · have hki2 : ¬ (k : Int) < i := by omega
              have HN2 : Hid (GoodA fs drop (add.take (i + 1))) := HG.out.next hlt HYes.out fun j hj h => by rw [← HXn.out]; exact HK.out j hj (by omega)
              go_wp2_with fail
              go_roundw
              · exact ⟨i + 1, _, by omega, by go_num, rfl, HN2.out⟩
              · simp [intOf]; omega
        · have hz := findZ_yes h4
          have h6 : decide (x ∈ drop) = true := decide_eq_true h5
          rw [h6] at HH3
          clear h4 h5 h6
          generalize findZ fs x = z at *
          go_wp2_with (first
            | (go_at_call 42; (with_reducible refine HF2.out.mono ?_); rintro e wx ⟨rfl, rfl⟩)
            | (go_at_call 75; (with_reducible refine HH3.out.mono ?_); rintro e wx ⟨rfl, rfl⟩))
          go_loopw [8] (fun kv wr => ∃ k m : Nat, k ≤ i ∧ kv = .int .i64 (k : Int) ∧ wr = w.drewN m ∧ Hid (∀ j (hj : j < add.length), j < k → add[j].num ≠ x)) (fun kv _ => i - (intOf kv).toNat)
          case atStart => exact ⟨0, n, by omega, rfl, rfl, fun j hj h => absurd h (by omega)⟩
          case round =>
            obtain ⟨k, m, hk, rfl, rfl, HK⟩ := hrel
            by_cases hki : k < i
            · have hki2 : (k : Int) < i := by omega
              obtain ⟨q3, _, _⟩ := HQ.out k (by omega)
              by_cases hyx : add[k].num = x
              · have HB2 : Hid (CheckZ fs add drop 31) := .inl ⟨rfl, fun hg => by
                  have h8 : (add.map (·.num))[k]'(by rw [List.length_map]; omega) = (add.map (·.num))[i]'(by rw [List.length_map]; omega) := by
                    rw [List.getElem_map, List.getElem_map, hyx, HXn.out]
                  have := nodup_inj hg.1.once _ _ h8
                  omega⟩
                rw [hyx] at q3
                clear hyx
                go_wp2_with fail
                go_quiet (fail)
                go_wp2_with fail
                go_ret
                exact ⟨31, rfl, ⟨_, drewN_two _ _ _⟩, HB2.out⟩
              · have HYX : Hid (add[k].num ≠ x) := hyx
                obtain ⟨y2, hy2⟩ : ∃ y2, y2 = add[k].num := ⟨_, rfl⟩
                rw [← hy2] at q3 hyx
                clear hy2
                go_wp2_with fail
                go_quiet (fail)
                go_wp2_with fail
                go_roundw
                · refine ⟨k + 1, _, by omega, by go_num, rfl, fun j hj h => ?_⟩
                  by_cases e : j = k
                  · subst e; exact HYX.out
                  · exact HK.out j hj (by omega)
                · simp [intOf]; omega
            · have hki2 : ¬ (k : Int) < i := by omega
              have HN2 : Hid (GoodA fs drop (add.take (i + 1))) := HG.out.next hlt HYes.out fun j hj h => by rw [← HXn.out]; exact HK.out j hj (by omega)
              go_wp2_with fail
              go_roundw
              · exact ⟨i + 1, _, by omega, by go_num, rfl, HN2.out⟩
              · simp [intOf]; omega
    · have hli : ¬ (i : Int) < add.length := by omega
      have HGA : Hid (GoodA fs drop add) := by have h9 := HG.out; rw [List.take_of_length_le (by omega)] at h9; exact h9
      clear HG
      go_wp2_with fail
      go_loopw [9] (fun iv wr => ∃ i n : Nat, i ≤ drop.length ∧ iv = .int .i64 (i : Int) ∧ wr = w.drewN n ∧ Hid (GoodDr fs (drop.take i))) (fun iv _ => drop.length - (intOf iv).toNat)
      case atStart => exact ⟨0, n, by omega, rfl, rfl, ⟨by simp, by simp⟩⟩
      case round =>
        obtain ⟨i, n, hi, rfl, rfl, HG⟩ := hrel
        by_cases hlt : i < drop.length
        · have hli : (i : Int) < drop.length := by omega
          obtain ⟨b, o, rfl, hc⟩ := HD.out (by intro e; have := congrArg List.length e; simp at this; rw [this] at hlt; simp at hlt)
          have q0 : w.cell? ⟨b, o + i, none⟩ = some (.int .i64 drop[i]) := by
            have := hc i (by simpa using hlt)
            rw [this]; simp
          clear hc
          have HBad : Hid (¬ (findB fs drop[i] = true ∧ drop[i] ∉ drop.take i) → CheckZ fs add drop 31) := fun hz => .inl ⟨rfl, fun hg => hz ⟨hg.2.each _ (List.getElem_mem hlt), fun hm => by
            obtain ⟨j, hj, e⟩ := List.mem_iff_getElem.1 hm
            rw [List.length_take] at hj
            rw [List.getElem_take] at e
            have := nodup_inj hg.2.once _ _ e
            omega⟩⟩
          have HNx : Hid (findB fs drop[i] = true → drop[i] ∉ drop.take i → GoodDr fs (drop.take (i + 1))) := fun h1 h2 => HG.out.next hlt h1 h2
          generalize drop[i] = x at *
          have HF2 : Hid (∀ m, _) := fun m : Nat => HF.out m x
          have HH3 : Hid (∀ m, _) := fun m : Nat => HH2.out m i x (by omega)
          have hcc : (i : Int) ≤ c2 := by omega
          have hcd : i ≤ c2 := by omega
          cases h4 : findB fs x with
          | false =>
            have hz : findZ fs x < 0 := by rw [findZ_no h4]; omega
            rw [h4] at HBad
            clear h4 HNx
            generalize findZ fs x = z at *
            go_wp2_with fail
            go_quiet ((first | (go_at_call 42; exact quiet_add_same' (HF2.out _)) | (go_at_call 75; exact quiet_add_same' (HH3.out _))))
            go_wp2_with fail
            go_ret
            exact ⟨31, rfl, ⟨_, drewN_two _ _ _⟩, HBad.out (by simp)⟩
          | true =>
            have hz := findZ_yes h4
            by_cases h5 : x ∈ drop.take i
            · have h6 : decide (x ∈ drop.take i) = true := decide_eq_true h5
              have HB2 : Hid (CheckZ fs add drop 31) := HBad.out fun h => h.2 h5
              simp only [h6] at HH3
              clear h4 h5 h6 HBad HNx
              generalize findZ fs x = z at *
              go_wp2_with fail
              go_quiet ((first | (go_at_call 42; exact quiet_add_same' (HF2.out _)) | (go_at_call 75; exact quiet_add_same' (HH3.out _))))
              go_wp2_with fail
              go_ret
              exact ⟨31, rfl, ⟨_, drewN_two _ _ _⟩, HB2.out⟩
            · have h6 : decide (x ∈ drop.take i) = false := decide_eq_false h5
              have HB2 := Lib.hid (HNx.out h4 h5)
              simp only [h6] at HH3
              clear h4 h5 h6 HBad HNx
              generalize findZ fs x = z at *
              go_wp2_with fail
              go_quiet ((first | (go_at_call 42; exact quiet_add_same' (HF2.out _)) | (go_at_call 75; exact quiet_add_same' (HH3.out _))))
              go_wp2_with fail
              go_roundw
              · exact ⟨i + 1, _, by omega, by go_num, rfl, HB2.out⟩
              · simp [intOf]; omega
        · have hli : ¬ (i : Int) < drop.length := by omega
          have HGD : Hid (GoodDr fs drop) := by have h9 := HG.out; rw [List.take_of_length_le (by omega)] at h9; exact h9
          clear HG
          obtain ⟨A, c, rfl, _⟩ := Sat.row_sl (h := (HS.out.of rsp_d).up2)
          have p0 : (w.drewN n).cell? ⟨r, 1, none⟩ = some (.slice A fs.length c) := ((HS.out.drewN n).of rsp_d).cell 1
          by_cases h24 : (24 : Int) < (fs.length : Int) + add.length - drop.length
          · have HZ : Hid (CheckZ fs add drop 32) := .inr ⟨HGA.out, HGD.out, (if_pos h24).symm⟩
            go_wp2_with fail
            go_ret
            exact ⟨32, rfl, ⟨_, rfl⟩, HZ.out⟩
          · have HZ : Hid (CheckZ fs add drop 0) := .inr ⟨HGA.out, HGD.out, (if_neg h24).symm⟩
            go_wp2_with fail
            go_ret
            exact ⟨0, rfl, ⟨_, rfl⟩, HZ.out⟩
end
end Go.Proofs.Ytjmapbhgjhlefaa
