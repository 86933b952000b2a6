/- Joined, as they were built one by one: TabWakes. -/
import Derived.Test.YtaoenbjfkahdjaaQ14
import Derived.Test.YtaoenbjfkahdjaaQ16
namespace Go.Proofs.Ytaoenbjfkahdjaa
open Go.RowKit
set_option linter.unusedVariables false
set_option maxRecDepth 100000

theorem buildB_len {L : List Ent} (h : buildE L = 0) : (buildB L).length ≤ 140737488355328 := by
  have hf := buildE_few h
  have hk : ∀ e ∈ L, e.key.length ≤ 128 ∧ e.value.length ≤ 16384 := fun e he => by have := mayE_iff.1 (buildE_may h e he); exact ⟨this.1, this.2.1⟩
  have h1 := bodyB_len L hk L.length
  have h2 := idxB_len L hk L.length
  have h3 := bitsB_len L
  have h4 := unlike_len L L.length
  have h5 := (nbytes_le (unlike L L.length).length 10 ⟨by omega, by omega, by omega, by omega⟩).2.2
  unfold buildB allB
  simp only [List.length_append, putB_len]
  omega
/-- Build, of entries that can be laid. -/
def Laid7 (L : List Ent) (w : World) (x : Ending) (w' : World) : Prop := ∃ (B : Option Addr) (d : Nat), x = .returned (.tuple #[.slice B (buildB L).length d, .int .i64 0]) ∧ (buildB L).length ≤ d ∧ d ≤ maxLen ∧ Sat w (Row 5 1 (.slice B (buildB L).length d) (buildB L).length ((buildB L).map bv) * Emp) w'
theorem bld7 (A : Option Addr) (c : Nat) (es : List En) (L : List Ent) (hL : es.map En.ent = L) (hb : buildE L = 0) (hs : ∀ e ∈ L, e.seq < 9223372036854775808) (w : World) (h : RdV w A (es.flatMap enV)) (hr : EnsR w es) (hc : es.length ≤ c) (hm : c ≤ maxLen) (hcap : ∀ y ∈ es, CapE y) :
    Calls Try.prog 14 #[.slice A es.length c] w (Laid7 L w) := by
  have hm2 : ∀ e ∈ es, mayE e.ent = true := fun e he => buildE_may hb _ (by rw [← hL]; exact List.mem_map_of_mem he)
  refine (build_any A c es w h hr hc hm (fun e he => ?_) (fun e he => hs _ (by rw [← hL]; exact List.mem_map_of_mem he))).mono ?_
  · have h1 := mayE_iff.1 (hm2 e he)
    have h2 := hcap e he
    have h3 : e.key.2.2.length ≤ 128 := h1.1
    have h4 : e.value.2.2.length ≤ 16384 := h1.2.1
    exact ⟨by omega, by omega, h2.1.1, h2.1.2⟩
  · rintro x w' (⟨h1, _⟩ | ⟨_, B, d, rfl, h2, h3, h4⟩)
    · rw [hL] at h1; exact absurd hb h1
    · rw [hL] at h2 h4 ⊢
      exact ⟨B, d, rfl, h2, h3, h4⟩
/-- Open, of what was laid. -/
def Open7 (L : List Ent) (w : World) (x : Ending) (w' : World) : Prop := ∃ (T : Nat) (es : List En), x = .returned (.tuple #[.pointer (some ⟨T, 0, none⟩), .int .i64 0]) ∧ es.map En.ent = L ∧ TabR w' T es ∧ Chg No w w'
theorem opn7 (B : Option Addr) (n d : Nat) (L : List Ent) (hb : buildE L = 0) (hs : ∀ e ∈ L, e.seq < 9223372036854775808) (w : World) (hn : n = (buildB L).length) (h : Rd w B (buildB L)) (hc : n ≤ d) (hm : d ≤ maxLen) :
    Calls Try.prog 15 #[.slice B n d] w (Open7 L w) := by
  subst hn
  refine (topen_any B d (buildB L) w h hc hm (buildB_len hb)).mono ?_
  rintro x w' (⟨h1, _⟩ | ⟨_, T, es, rfl, h2, h3, h4, h5⟩)
  · exact absurd (openE_build hb hs) h1
  · rw [(readP_build hb hs).1] at h2
    exact ⟨T, es, rfl, h2, h3, h5⟩
theorem tnum_any (x : Int) (w : World) : Calls Try.prog 28 #[.int .i64 x] w fun e w' => e = .returned (.int .i64 x) ∧ w = w' := by
  go_enter Try.func28, Try.ntmps28
  go_wp2
  go_ret
  exact ⟨rfl, rfl⟩
def wkE : Ent := ⟨[97, 98], [120], 3, false⟩
theorem wk_ok : buildE [wkE] = 0 := by decide +kernel
theorem wk_seq : ∀ e ∈ [wkE], e.seq < 9223372036854775808 := by intro e he; simp at he; subst he; decide
theorem wk_len : (buildB [wkE]).length = 59 := by decide +kernel
theorem wk_get : getL [97, 98] 5 [wkE] = some wkE := by rfl
theorem wk_build (w : World) : Calls Try.prog 14 #[.slice (some ⟨w.heap.size + 1 + 1, 0, none⟩) 1 1]
    (((w.alloc (.cells #[.int .u8 97, .int .u8 98] 5 (2, 3))).alloc (.cells #[.int .u8 120] 5 (1, 2))).alloc (.cells #[.slice (some ⟨w.heap.size, 0, none⟩) 2 2, .slice (some ⟨w.heap.size + 1, 0, none⟩) 1 1, .int .i64 3, .bool false] 34))
    fun x w' => ∃ (B : Option Addr) (d : Nat), x = .returned (.tuple #[.slice B 59 d, .int .i64 0]) ∧ 59 ≤ d ∧ d ≤ maxLen ∧ Rd w' B (buildB [wkE]) ∧ Chg No w w' := by
  have k1 : Chg No w (w.alloc (.cells #[.int .u8 97, .int .u8 98] 5 (2, 3))) := (Chg.refl No w).alloc _
  have k3 := (k1.alloc (.cells #[.int .u8 120] 5 (1, 2))).alloc (.cells #[.slice (some ⟨w.heap.size, 0, none⟩) 2 2, .slice (some ⟨w.heap.size + 1, 0, none⟩) 1 1, .int .i64 3, .bool false] 34)
  have r1 : Rd (w.alloc (.cells #[.int .u8 97, .int .u8 98] 5 (2, 3))) (some ⟨w.heap.size, 0, none⟩) [97, 98] := RdV.lit w #[.int .u8 97, .int .u8 98] 5 (2, 3)
  have r2 := RdV.lit (w.alloc (.cells #[.int .u8 97, .int .u8 98] 5 (2, 3))) #[.int .u8 120] 5 (1, 2)
  have r3 := lit_rdv ((w.alloc (.cells #[.int .u8 97, .int .u8 98] 5 (2, 3))).alloc (.cells #[.int .u8 120] 5 (1, 2))) #[.slice (some ⟨w.heap.size, 0, none⟩) 2 2, .slice (some ⟨w.heap.size + 1, 0, none⟩) 1 1, .int .i64 3, .bool false] 34
  simp only [World.size_alloc] at r2 r3
  refine (bld7 (some ⟨w.heap.size + 1 + 1, 0, none⟩) 1 [⟨(some ⟨w.heap.size, 0, none⟩, 2, [97, 98]), (some ⟨w.heap.size + 1, 0, none⟩, 1, [120]), 3, false⟩] [wkE] rfl wk_ok wk_seq _ r3 (fun e he => ?_) (by simp) (by decide) (fun e he => ?_)).mono ?_
  · simp at he
    subst he
    exact ⟨(r1.alloc _).alloc _, (show Rd _ (some ⟨w.heap.size + 1, 0, none⟩) [120] from r2).alloc _⟩
  · simp at he
    subst he
    have h1 : (1 : Nat) ≤ maxLen := by decide
    have h2 : (2 : Nat) ≤ maxLen := by decide
    exact ⟨⟨by simp, h2⟩, by simp, h1⟩
  · rintro x w' ⟨B, d, rfl, h1, h2, h3⟩
    rw [wk_len] at h1
    rw [wk_len] at h3
    exact ⟨B, d, by rw [wk_len], h1, h2, h3.row_rdK, k3.tr h3.chg⟩
theorem wk_open (B : Option Addr) (d : Nat) (w : World) (h : Rd w B (buildB [wkE])) (hc : 59 ≤ d) (hm : d ≤ maxLen) :
    Calls Try.prog 15 #[.slice B 59 d] w fun x w' => ∃ (T : Nat) (es : List En), x = .returned (.tuple #[.pointer (some ⟨T, 0, none⟩), .int .i64 0]) ∧ es.map En.ent = [wkE] ∧ TabR w' T es ∧ Chg No w w' :=
  opn7 B 59 d [wkE] wk_ok wk_seq w wk_len.symm h hc hm
theorem x_beq : ∃ SA : ByteArray, SA = ByteArray.mk [120].toArray ∧ (SA.toList == [120]) = true := ⟨_, rfl, by simp⟩
theorem wk_got (T : Nat) (es : List En) (w : World) (hL : es.map En.ent = [wkE]) (h : TabR w T es) :
    Calls Try.prog 33 #[.pointer (some ⟨T, 0, none⟩), .slice (some ⟨w.heap.size, 0, none⟩) 2 2, .int .i64 5] (w.alloc (.cells #[.int .u8 97, .int .u8 98] 5 (2, 3)))
    fun x w' => ∃ (gA hA : Option Addr) (gc hc : Nat), x = .returned (.tuple #[.agg #[.slice gA 2 gc, .slice hA 1 hc, .int .i64 3, .bool false], .bool true]) ∧ Rd w' hA [120] ∧ Chg No w w' := by
  have k1 : Chg No w (w.alloc (.cells #[.int .u8 97, .int .u8 98] 5 (2, 3))) := (Chg.refl No w).alloc _
  refine (tget_any (some ⟨w.heap.size, 0, none⟩, 2, [97, 98]) 5 T es _ (RdV.lit w #[.int .u8 97, .int .u8 98] 5 (2, 3)) (h.new k1)).mono ?_
  rintro x w' ⟨g, rfl, h1, h2⟩
  rw [hL, wk_get] at h1 ⊢
  obtain ⟨⟨gA, gc, gk⟩, ⟨hA, hc, hv⟩, gs, gd⟩ := g
  have hr := (ownE_r (h2.of (star_emp _).symm) _ (List.mem_singleton_self _)).2
  unfold En.ent wkE at h1
  simp at h1
  obtain ⟨rfl, rfl, rfl, rfl⟩ := h1
  exact ⟨gA, hA, gc, hc, rfl, hr, k1.tr h2.chg⟩
set_option maxHeartbeats 2000000 in
theorem wakes7_any (w : World) : Calls Try.prog 30 #[] w (Asked true w) := by
  have kc := fun (w : World) (C : Array Value) (n c : Nat) => Lib.run_convert_bytes_const (P := Try.prog) w 32 5 C n c Try.underlying32 Try.underlying5
  obtain ⟨SA, e1, e2⟩ := x_beq
  have ks : ∀ (W : World) (hA : Option Addr) (hc : Nat), Rd W hA [120] → (convert 32 9 (.slice hA 1 hc)).run Try.prog W = .ok (.string SA) W := fun W hA hc h => by rw [e1]; exact str_any h hc
  clear e1
  have kc2 := fun (n c : Nat) => kc (w.alloc (.cells #[.int .u8 97, .int .u8 98] 5 (2, 3))) #[.int .u8 120] n c
  simp only [World.size_alloc] at kc2
  go_enter Try.func30, Try.ntmps30
  go_wp2_with (first
    | (go_at_call 14; (with_reducible refine (wk_build w).mono ?_); rintro x w1 ⟨B, d, rfl, q1, q2, q3, q4⟩; have H1 := Lib.hid q1; have H2 := Lib.hid q2; have H3 := Lib.hid q3; have H4 := Lib.hid q4; clear q1 q2 q3 q4)
    | (go_at_call 15; (with_reducible refine (wk_open B d w1 H3.out H1.out H2.out).mono ?_); rintro x w2 ⟨T, es, rfl, q1, q2, q3⟩; have HL := Lib.hid q1; have hes : Hid ((es.length : Int) = 1) := (by have h9 := congrArg List.length HL.out; simp at h9; unfold Hid; omega); have HT := Lib.hid q2; have HC := Lib.hid (H4.out.tr q3); clear q1 q2 q3)
    | (go_at_call 28; (with_reducible refine (tnum_any _ _).mono ?_); rintro e wx ⟨rfl, rfl⟩)
    | (go_at_call 33; (with_reducible refine (wk_got T es w2 HL.out HT.out).mono ?_); rintro x w3 ⟨gA, hA, gc, hc, rfl, q1, q2⟩; have HC3 := Lib.hid (HC.out.tr q2); have HT3 := Lib.hid (HT.out.new q2); have s1 := fun (o : Obj) => ks (w3.alloc o) hA hc (q1.alloc o); clear q1 q2)
    | (go_at_call 40; (with_reducible refine (tlen_any T es _ (HT3.out.new ((Chg.refl No w3).alloc _))).mono ?_); rintro x w4 ⟨rfl, rfl⟩; rw [hes.out]))
  go_ret
  exact ⟨rfl, HC3.out.alloc _⟩
end Go.Proofs.Ytaoenbjfkahdjaa
