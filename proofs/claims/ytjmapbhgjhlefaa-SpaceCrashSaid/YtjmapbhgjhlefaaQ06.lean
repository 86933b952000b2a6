/- Joined, as they were built one by one: ExtW AppZ OwnL Join Ext0 Ext1. -/
import Derived.Test.YtjmapbhgjhlefaaQ02
import Derived.Test.YtjmapbhgjhlefaaQ03
import Derived.Test.YtjmapbhgjhlefaaQ05
namespace Go.Proofs.Ytjmapbhgjhlefaa
open Go.RowKit
set_option linter.unusedVariables false
set_option maxRecDepth 100000

/-! Laying. -/
def apartP (p q : Nat × Nat) : Prop := p.1 + p.2 ≤ q.1 ∨ q.1 + q.2 ≤ p.1
/-- A row of blocks that is free. -/
def freeAt (n : Nat) (l : List (Nat × Nat)) (bl : Int) (a : Nat) : Prop := (a : Int) + bl ≤ n ∧ ∀ p ∈ l, (a : Int) + bl ≤ p.1 ∨ p.1 + p.2 ≤ a
theorem placeX_spec {n : Nat} {bl : Int} (hb : 1 ≤ bl) : ∀ (l : List (Nat × Nat)) (first : Nat), (l.Pairwise fun p q => p.1 ≤ q.1) → l.Pairwise apartP → (∀ p ∈ l, first ≤ p.1 ∧ 1 ≤ p.2 ∧ p.1 + p.2 ≤ n) →
    ((placeX n bl first l).2 = true → first ≤ (placeX n bl first l).1 ∧ freeAt n l bl (placeX n bl first l).1) ∧ (∀ a, first ≤ a → freeAt n l bl a → (placeX n bl first l).2 = true ∧ (placeX n bl first l).1 ≤ a)
  | [], first, _, _, _ => by
    unfold placeX
    refine ⟨fun h => ⟨Nat.le_refl _, ?_, by simp⟩, fun a ha hf => ⟨decide_eq_true ?_, ha⟩⟩
    · have := of_decide_eq_true h; omega
    · have := hf.1; omega
  | p :: l, first, hs, hp, he => by
    obtain ⟨hs1, hs2⟩ := List.pairwise_cons.1 hs
    obtain ⟨hp1, hp2⟩ := List.pairwise_cons.1 hp
    have hep := he p (by simp)
    unfold placeX
    by_cases h : bl ≤ (p.1 : Int) - first
    · rw [if_pos h]
      refine ⟨fun _ => ⟨Nat.le_refl _, by omega, fun q hq => ?_⟩, fun a ha _ => ⟨rfl, ha⟩⟩
      left
      rcases List.mem_cons.1 hq with rfl | hq
      · show (first : Int) + bl ≤ _; omega
      · have := hs1 q hq
        show (first : Int) + bl ≤ _; omega
    · rw [if_neg h]
      have hl : ∀ q ∈ l, p.1 + p.2 ≤ q.1 ∧ 1 ≤ q.2 ∧ q.1 + q.2 ≤ n := fun q hq => by
        have h1 := hs1 q hq
        have h2 := he q (List.mem_cons_of_mem _ hq)
        rcases hp1 q hq with h3 | h3
        · exact ⟨h3, h2.2.1, h2.2.2⟩
        · omega
      obtain ⟨i1, i2⟩ := placeX_spec hb l (p.1 + p.2) hs2 hp2 hl
      refine ⟨fun ho => ?_, fun a ha hf => ?_⟩
      · obtain ⟨j1, j2, j3⟩ := i1 ho
        refine ⟨by omega, j2, fun q hq => ?_⟩
        rcases List.mem_cons.1 hq with rfl | hq
        · exact .inr j1
        · exact j3 q hq
      · refine i2 a ?_ ⟨hf.1, fun q hq => hf.2 q (List.mem_cons_of_mem _ hq)⟩
        rcases hf.2 p (by simp) with h3 | h3
        · omega
        · exact h3
theorem insF_perm (p : Nat × Nat) : ∀ l, (insF p l).Perm (p :: l)
  | [] => List.Perm.refl _
  | q :: l => by
    unfold insF
    split
    · exact List.Perm.refl _
    · exact (List.Perm.cons q (insF_perm p l)).trans (List.Perm.swap _ _ _)
theorem insF_sorted (p : Nat × Nat) : ∀ l, (l.Pairwise fun p q : Nat × Nat => p.1 ≤ q.1) → (insF p l).Pairwise fun p q => p.1 ≤ q.1
  | [], _ => List.pairwise_singleton _ _
  | q :: l, h => by
    obtain ⟨h1, h2⟩ := List.pairwise_cons.1 h
    unfold insF
    split
    · rename_i hpq
      exact List.pairwise_cons.2 ⟨fun x hx => by
        rcases List.mem_cons.1 hx with rfl | hx
        · exact hpq
        · exact Nat.le_trans hpq (h1 x hx), h⟩
    · rename_i hpq
      refine List.pairwise_cons.2 ⟨fun x hx => ?_, insF_sorted p l h2⟩
      rcases List.mem_cons.1 ((insF_perm p l).mem_iff.1 hx) with rfl | hx
      · omega
      · exact h1 x hx
theorem sortF_perm : ∀ l, (sortF l).Perm l
  | [] => List.Perm.refl _
  | p :: l => (insF_perm p (sortF l)).trans (List.Perm.cons p (sortF_perm l))
theorem sortF_sorted : ∀ l, (sortF l).Pairwise fun p q => p.1 ≤ q.1
  | [] => List.Pairwise.nil
  | p :: l => insF_sorted p _ (sortF_sorted l)
theorem insN_perm (p : Fl) : ∀ l, (insN p l).Perm (p :: l)
  | [] => List.Perm.refl _
  | q :: l => by
    unfold insN
    split
    · exact List.Perm.refl _
    · exact (List.Perm.cons q (insN_perm p l)).trans (List.Perm.swap _ _ _)
theorem insN_sorted (p : Fl) : ∀ l, (l.Pairwise fun p q : Fl => p.num ≤ q.num) → (insN p l).Pairwise fun p q => p.num ≤ q.num
  | [], _ => List.pairwise_singleton _ _
  | q :: l, h => by
    obtain ⟨h1, h2⟩ := List.pairwise_cons.1 h
    unfold insN
    split
    · rename_i hpq
      exact List.pairwise_cons.2 ⟨fun x hx => by
        rcases List.mem_cons.1 hx with rfl | hx
        · exact hpq
        · exact Nat.le_trans hpq (h1 x hx), h⟩
    · rename_i hpq
      refine List.pairwise_cons.2 ⟨fun x hx => ?_, insN_sorted p l h2⟩
      rcases List.mem_cons.1 ((insN_perm p l).mem_iff.1 hx) with rfl | hx
      · omega
      · exact h1 x hx
theorem sortN_perm : ∀ l, (sortN l).Perm l
  | [] => List.Perm.refl _
  | p :: l => (insN_perm p (sortN l)).trans (List.Perm.cons p (sortN_perm l))
theorem sortN_sorted : ∀ l, (sortN l).Pairwise fun p q => p.num ≤ q.num
  | [] => List.Pairwise.nil
  | p :: l => insN_sorted p _ (sortN_sorted l)
theorem apartP_symm {p q : Nat × Nat} (h : apartP p q) : apartP q p := h.symm
theorem perm_apart {l m : List (Nat × Nat)} (h : l.Perm m) (hp : l.Pairwise apartP) : m.Pairwise apartP := (h.pairwise_iff (fun h => apartP_symm h)).1 hp
/-- A disk's files as they lie. -/
structure LieOk (n : Nat) (l : List (Nat × Nat)) : Prop where
  apart : l.Pairwise apartP
  each : ∀ p ∈ l, 2 ≤ p.1 ∧ 1 ≤ p.2 ∧ p.1 + p.2 ≤ n
theorem place_sort {n : Nat} {bl : Int} (hb : 1 ≤ bl) {l : List (Nat × Nat)} (h : LieOk n l) :
    ((placeX n bl 2 (sortF l)).2 = true → 2 ≤ (placeX n bl 2 (sortF l)).1 ∧ freeAt n l bl (placeX n bl 2 (sortF l)).1) ∧ (∀ a, 2 ≤ a → freeAt n l bl a → (placeX n bl 2 (sortF l)).2 = true ∧ (placeX n bl 2 (sortF l)).1 ≤ a) := by
  have hp := sortF_perm l
  have h9 := placeX_spec (n := n) hb (sortF l) 2 (sortF_sorted l) (perm_apart hp.symm h.apart) (fun p hq => h.each p (hp.mem_iff.1 hq))
  have hf : ∀ a, freeAt n (sortF l) bl a ↔ freeAt n l bl a := fun a => ⟨fun ⟨h1, h2⟩ => ⟨h1, fun q hq => h2 q (hp.mem_iff.2 hq)⟩, fun ⟨h1, h2⟩ => ⟨h1, fun q hq => h2 q (hp.mem_iff.1 hq)⟩⟩
  exact ⟨fun ho => ⟨(h9.1 ho).1, (hf _).1 (h9.1 ho).2⟩, fun a ha hfa => h9.2 a ha ((hf a).2 hfa)⟩
theorem LieOk.snoc {n : Nat} {l : List (Nat × Nat)} (h : LieOk n l) {a : Nat} {bl : Int} (hb : 1 ≤ bl) (h2 : 2 ≤ a) (hf : freeAt n l bl a) : LieOk n (l ++ [(a, bl.toNat)]) := by
  refine ⟨List.pairwise_append.2 ⟨h.apart, List.pairwise_singleton _ _, fun p hp q hq => ?_⟩, fun p hp => ?_⟩
  · rw [List.mem_singleton] at hq
    subst hq
    rcases hf.2 p hp with h3 | h3
    · right; show a + bl.toNat ≤ p.1; omega
    · exact .inl h3
  · rcases List.mem_append.1 hp with hp | hp
    · exact h.each p hp
    · rw [List.mem_singleton] at hp
      subst hp
      have := hf.1
      exact ⟨h2, by show 1 ≤ bl.toNat; omega, by show a + bl.toNat ≤ n; omega⟩
/-- What is added: each lies for itself. -/
theorem addX_some {n turn : Nat} : ∀ (add : List Fi) (lie : List (Nat × Nat)) (fs gs : List Fl), addX n turn add lie fs = some gs → (∀ x ∈ add, 1 ≤ x.blocks) → LieOk n lie →
    ∃ news : List Fl, gs = fs ++ news ∧ news.map (·.num) = add.map (·.num.toNat) ∧ (∀ f ∈ news, f = ⟨f.num, f.first, f.blocks, turn, 1, []⟩) ∧ LieOk n (lie ++ news.map fun f => (f.first, f.blocks)) ∧ news.map (·.blocks) = add.map (·.blocks.toNat)
  | [], lie, fs, gs, h, _, hl => by
    unfold addX at h
    injection h with h
    exact ⟨[], by simp [h], rfl, by simp, by simpa using hl, rfl⟩
  | x :: add, lie, fs, gs, h, hb, hl => by
    unfold addX at h
    have hx := hb x (by simp)
    have hp := (place_sort hx hl).1
    obtain ⟨a, o, e⟩ : ∃ a o, placeX n x.blocks 2 (sortF lie) = (a, o) := ⟨_, _, rfl⟩
    rw [e] at h hp
    cases o with
    | false => cases h
    | true =>
      obtain ⟨p1, p2⟩ := hp rfl
      have hl2 := hl.snoc hx p1 p2
      obtain ⟨news, h1, h2, h3, h4, h5⟩ := addX_some add _ _ gs h (fun y hy => hb y (List.mem_cons_of_mem _ hy)) hl2
      refine ⟨⟨x.num.toNat, a, x.blocks.toNat, turn, 1, []⟩ :: news, by rw [h1, List.append_assoc]; rfl, by rw [List.map_cons, List.map_cons, h2], fun f hf => ?_, by rw [List.map_cons]; simpa using h4, by rw [List.map_cons, List.map_cons, h5]⟩
      rcases List.mem_cons.1 hf with rfl | hf
      · rfl
      · exact h3 f hf
/-! Numbers. -/
theorem find_some {S : Spc} {n : Int} (h : (S.find n).isSome = true) : ∃ f ∈ S.files, (f.num : Int) = n := by
  unfold Spc.find at h
  rw [List.find?_isSome] at h
  obtain ⟨f, h1, h2⟩ := h
  exact ⟨f, h1, by simpa using h2⟩
theorem find_none {S : Spc} {n : Int} (h : (S.find n).isSome = false) : ∀ f ∈ S.files, (f.num : Int) ≠ n := fun f hf e => by
  have : (S.find n).isSome = true := by
    unfold Spc.find
    rw [List.find?_isSome]
    exact ⟨f, hf, by simpa using e⟩
  rw [h] at this; cases this
theorem mayDrop_iff {S : Spc} : ∀ (l ahead : List Int), S.mayDrop ahead l = true ↔ (∀ n ∈ l, (S.find n).isSome = true ∧ n ∉ ahead) ∧ l.Nodup
  | [], ahead => by simp [Spc.mayDrop]
  | n :: l, ahead => by
    unfold Spc.mayDrop
    simp only [Bool.and_eq_true, mayDrop_iff l (ahead ++ [n]), List.nodup_cons, List.mem_cons, Bool.not_eq_true', List.contains_eq_mem, decide_eq_false_iff_not]
    constructor
    · rintro ⟨⟨h1, h2⟩, h3, h4⟩
      refine ⟨?_, ?_, h4⟩
      · rintro m (rfl | hm)
        · exact ⟨h1, h2⟩
        · have := h3 m hm
          simp only [List.mem_append, List.mem_singleton, not_or] at this
          exact ⟨this.1, this.2.1⟩
      · intro hm
        have := (h3 n hm).2
        simp at this
    · rintro ⟨h1, h2, h3⟩
      refine ⟨⟨(h1 n (.inl rfl)).1, (h1 n (.inl rfl)).2⟩, fun m hm => ⟨(h1 m (.inr hm)).1, ?_⟩, h3⟩
      simp only [List.mem_append, List.mem_singleton, not_or]
      exact ⟨(h1 m (.inr hm)).2, fun e => h2 (e ▸ hm)⟩
theorem mayAdd_iff {S : Spc} {drop : List Int} : ∀ (l : List Fi) (seen : List Int), S.mayAdd drop seen l = true ↔ (∀ x ∈ l, (1 ≤ x.num ∧ x.num ≤ 2147483647 ∧ 1 ≤ x.blocks) ∧ x.num ∉ seen ∧ ((S.find x.num).isSome = false ∨ x.num ∈ drop)) ∧ (l.map (·.num)).Nodup
  | [], seen => by simp [Spc.mayAdd]
  | n :: l, seen => by
    unfold Spc.mayAdd
    simp only [Bool.and_eq_true, Bool.or_eq_true, mayAdd_iff l (seen ++ [n.num]), List.map_cons, List.nodup_cons, List.mem_cons, Bool.not_eq_true', List.contains_eq_mem, decide_eq_false_iff_not, decide_eq_true_eq]
    constructor
    · rintro ⟨⟨⟨h1, h2⟩, h3⟩, h4, h5⟩
      refine ⟨?_, ?_, h5⟩
      · rintro m (rfl | hm)
        · exact ⟨h1, h2, h3⟩
        · obtain ⟨a, b, c⟩ := h4 m hm
          simp only [List.mem_append, List.mem_singleton, not_or] at b
          exact ⟨a, b.1, c⟩
      · intro hm
        obtain ⟨y, hy, e⟩ := List.mem_map.1 hm
        have := (h4 y hy).2.1
        simp only [List.mem_append, List.mem_singleton, not_or] at this
        exact this.2 e
    · rintro ⟨h1, h2, h3⟩
      refine ⟨⟨⟨(h1 n (.inl rfl)).1, (h1 n (.inl rfl)).2.1⟩, (h1 n (.inl rfl)).2.2⟩, fun m hm => ⟨(h1 m (.inr hm)).1, ?_, (h1 m (.inr hm)).2.2⟩, h3⟩
      simp only [List.mem_append, List.mem_singleton, not_or]
      exact ⟨(h1 m (.inr hm)).2.1, fun e => h2 (List.mem_map.2 ⟨m, hm, e⟩)⟩
/-- Of files with numbers of their own as many go as numbers are dropped. -/
theorem drop_count : ∀ (fs : List Fl) (drop : List Int), (fs.Pairwise fun a b => a.num < b.num) → drop.Nodup → (∀ n ∈ drop, ∃ f ∈ fs, (f.num : Int) = n) → (fs.filter fun f => !drop.contains (f.num : Int)).length + drop.length = fs.length
  | [], drop, _, _, hd => by
    cases drop with
    | nil => rfl
    | cons n l => obtain ⟨f, hf, _⟩ := hd n (by simp); cases hf
  | f :: fs, drop, hp, hn, hd => by
    obtain ⟨hp1, hp2⟩ := List.pairwise_cons.1 hp
    by_cases hm : (f.num : Int) ∈ drop
    · have ih := drop_count fs (drop.erase (f.num : Int)) hp2 (hn.erase _) (fun n hn2 => by
        have h1 := (List.Nodup.mem_erase_iff hn).1 hn2
        obtain ⟨g, hg, e⟩ := hd n h1.2
        rcases List.mem_cons.1 hg with rfl | hg
        · exact absurd e.symm h1.1
        · exact ⟨g, hg, e⟩)
      have hl := List.length_erase_of_mem hm
      have hpos := List.length_pos_of_mem hm
      have he : (fs.filter fun g => !(drop.erase (f.num : Int)).contains (g.num : Int)) = fs.filter fun g => !drop.contains (g.num : Int) := by
        apply List.filter_congr
        intro g hg
        have h1 := hp1 g hg
        have : ((g.num : Int) ∈ drop.erase (f.num : Int)) ↔ (g.num : Int) ∈ drop := by
          rw [List.Nodup.mem_erase_iff hn]
          exact ⟨fun h => h.2, fun h => ⟨by omega, h⟩⟩
        simp only [List.contains_eq_mem, this]
      rw [he] at ih
      rw [List.filter_cons, if_neg (by simp [hm]), List.length_cons]
      omega
    · have ih := drop_count fs drop hp2 hn (fun n hn2 => by
        obtain ⟨g, hg, e⟩ := hd n hn2
        rcases List.mem_cons.1 hg with rfl | hg
        · exact absurd (e ▸ hn2) hm
        · exact ⟨g, hg, e⟩)
      rw [List.filter_cons, if_pos (by simp [hm]), List.length_cons, List.length_cons]
      omega
theorem FsOk.lieOk {n turn : Nat} {fs : List Fl} (h : FsOk n turn fs) : LieOk n (fs.map fun f => (f.first, f.blocks)) := by
  refine ⟨?_, fun p hp => ?_⟩
  · rw [List.pairwise_map]
    exact h.apart
  · obtain ⟨f, hf, rfl⟩ := List.mem_map.1 hp
    obtain ⟨h1, h2, h3, h4, h5, h6⟩ := h.each f hf
    exact ⟨h3, h4, h5⟩
theorem pw_strict {l : List Fl} (h : l.Pairwise fun p q => p.num ≤ q.num) (hn : (l.map (·.num)).Nodup) : l.Pairwise fun p q => p.num < q.num := by
  have h2 : l.Pairwise fun p q => p.num ≠ q.num := by
    have := List.pairwise_map.1 hn
    exact this
  exact (h.and h2).imp fun ⟨a, b⟩ => by omega
/-- What a Switch that may be makes of the files. -/
theorem next_of {D : Dk} {S : Spc} {sf : Nat → Nat} {lim : Nat} (h : Good D S sf lim) {add : List Fi} {drop : List Int} (hm : S.may add drop = true) (hc : (S.files.length : Int) + add.length - drop.length ≤ 24) {fs : List Fl}
    (ha : addX D.cells.length (S.turn + 1) add S.lie (S.files.filter fun f => !drop.contains (f.num : Int)) = some fs) :
    Next D S sf (sortN fs) (fun num => if (num : Int) ∈ add.map (·.num) then 0 else sf num) := by
  unfold Spc.may at hm
  obtain ⟨hm1, hm2⟩ := (Bool.and_eq_true _ _).mp hm |> fun x => (x : _ ∧ _)
  obtain ⟨d1, d2⟩ := (mayDrop_iff drop []).1 hm1
  obtain ⟨a1, a2⟩ := (mayAdd_iff add []).1 hm2
  have hok := h.fils.ok
  obtain ⟨news, rfl, n1, n2, n3, n4⟩ := addX_some add S.lie _ fs ha (fun x hx => (a1 x hx).1.2.2) hok.lieOk
  obtain ⟨K, hK⟩ : ∃ K, K = S.files.filter fun f => !drop.contains (f.num : Int) := ⟨_, rfl⟩
  have hKm : ∀ f ∈ K, f ∈ S.files ∧ (f.num : Int) ∉ drop := fun f hf => by
    rw [hK, List.mem_filter] at hf
    exact ⟨hf.1, by simpa using hf.2⟩
  have hcnt := drop_count S.files drop hok.nums d2 (fun n hn => find_some (d1 n hn).1)
  rw [← hK] at hcnt ⊢
  have hnl : news.length = add.length := by have := congrArg List.length n1; simpa using this
  have hnew : ∀ f ∈ news, ∃ x ∈ add, f.num = x.num.toNat ∧ (f.num : Int) = x.num := fun f hf => by
    have : f.num ∈ news.map (·.num) := List.mem_map_of_mem hf
    rw [n1] at this
    obtain ⟨x, hx, e⟩ := List.mem_map.1 this
    have h9 := (a1 x hx).1.1
    exact ⟨x, hx, e.symm, by omega⟩
  have hperm := sortN_perm (K ++ news)
  have hKS : K.Sublist S.files := by rw [hK]; exact List.filter_sublist
  have hKn : K.Pairwise fun a b => a.num < b.num := hok.nums.sublist hKS
  have hnd : ((K ++ news).map (·.num)).Nodup := by
    rw [List.map_append]
    refine List.nodup_append.2 ⟨?_, ?_, ?_⟩
    · exact List.pairwise_map.2 (hKn.imp fun h => by omega)
    · rw [n1]
      refine List.pairwise_map.2 ?_
      have h8 := List.pairwise_map.1 a2
      refine List.Pairwise.imp_of_mem (fun {x y} hx hy hne => ?_) h8
      have h6 := (a1 x hx).1.1; have h7 := (a1 y hy).1.1
      omega
    · intro x hx y hy e
      subst e
      obtain ⟨f, hf, e1⟩ := List.mem_map.1 hx
      obtain ⟨g, hg, e2⟩ := List.mem_map.1 hy
      obtain ⟨z, hz, _, e3⟩ := hnew g hg
      obtain ⟨k1, k2⟩ := hKm f hf
      have hfz : (f.num : Int) = z.num := by omega
      rcases (a1 z hz).2.2 with q | q
      · exact find_none q f k1 hfz
      · exact k2 (hfz ▸ q)
  have hlie : LieOk D.cells.length ((K ++ news).map fun f => (f.first, f.blocks)) := by
    rw [List.map_append]
    refine ⟨n3.apart.sublist (List.Sublist.append ?_ (List.Sublist.refl _)), fun p hp => n3.each p ?_⟩
    · exact hKS.map _
    · rcases List.mem_append.1 hp with q | q
      · exact List.mem_append_left _ ((hKS.map _).mem q)
      · exact List.mem_append_right _ q
  refine ⟨⟨?_, ?_, ?_, fun f hf => ?_⟩, fun f hf => ?_⟩
  · rw [hperm.length_eq, List.length_append]; omega
  · exact pw_strict (sortN_sorted _) ((hperm.map _).nodup_iff.2 hnd)
  · have h8 : (K ++ news).Pairwise fun a b => a.first + a.blocks ≤ b.first ∨ b.first + b.blocks ≤ a.first := List.pairwise_map.1 hlie.apart
    exact (hperm.symm.pairwise_iff (fun h => h.symm)).1 h8
  · have hf2 := hperm.mem_iff.1 hf
    have h3 := hlie.each (f.first, f.blocks) (List.mem_map_of_mem hf2)
    rcases List.mem_append.1 hf2 with q | q
    · obtain ⟨b1, b2, b3, b4, b5, b6⟩ := hok.each f (hKm f q).1
      exact ⟨b1, b2, b3, b4, b5, by omega⟩
    · obtain ⟨z, hz, e1, e2⟩ := hnew f q
      have h9 := (a1 z hz).1
      have h10 := congrArg Fl.birth (n2 f q)
      simp only at h10
      exact ⟨by omega, by omega, h3.1, h3.2.1, h3.2.2, by omega⟩
  · have hf2 := hperm.mem_iff.1 hf
    rcases List.mem_append.1 hf2 with q | q
    · left
      refine ⟨(hKm f q).1, ?_⟩
      split
      · exact Nat.zero_le _
      · exact Nat.le_refl _
    · right
      refine ⟨n2 f q, ?_⟩
      obtain ⟨z, hz, e1, e2⟩ := hnew f q
      rw [if_pos]
      rw [e2]
      exact List.mem_map_of_mem hz
/-! The calls, by whether power goes off. -/
section
variable {D : Dk} {S : Spc} {sf : Nat → Nat} {lim : Nat}
theorem put_eq (h : Good D S sf lim) {fs : List Fl} (hn : fs.length ≤ 24) :
    (D.armed = 1 → S.put fs D = (S, D.took (1 - S.slot) (sealB (S.turn + 1) (fs.map Fl.hd)), 21)) ∧ (D.armed ≠ 1 → S.put fs D = (⟨1 - S.slot, S.turn + 1, fs⟩, (D.wr (1 - S.slot) (sealB (S.turn + 1) (fs.map Fl.hd))).flush.1, 0)) := by
  have hs := h.heads.lt
  have h2 := h.fils.two
  have hl := h.fils.cap
  have hi : (S.slot + 1) % 2 = 1 - S.slot := by omega
  have ht : (S.turn + 1) % 18446744073709551616 = S.turn + 1 := Nat.mod_eq_of_lt (by omega)
  have hw := write_took D (1 - S.slot) (sealB (S.turn + 1) (fs.map Fl.hd)) h.fils.off (by omega) (sealB_len (by rw [List.length_map]; exact hn))
  unfold Spc.put
  simp only [hi, ht, hw]
  constructor
  · intro ha
    rw [if_pos (by rw [if_pos ha]; simp), if_pos ha]
  · intro ha
    have e : D.took (1 - S.slot) (sealB (S.turn + 1) (fs.map Fl.hd)) = D.wr (1 - S.slot) (sealB (S.turn + 1) (fs.map Fl.hd)) := by
      unfold Dk.wr Dk.took
      simp only [if_neg ha, h.fils.off]
    rw [if_neg (by rw [if_neg ha]; simp), e]
    have hf := flush_on (D.wr (1 - S.slot) (sealB (S.turn + 1) (fs.map Fl.hd))) rfl
    rw [if_neg (by rw [hf]; simp)]
theorem took_crash (D : Dk) (i : Nat) (b : List UInt8) (keep : List Bool) (torn bytes : Int) : (D.took i b).crash keep torn bytes = (D.wr i b).crash keep torn bytes := rfl
end
end Go.Proofs.Ytjmapbhgjhlefaa
namespace Go.Proofs.Ytjmapbhgjhlefaa
open Go.RowKit
set_option linter.unusedVariables false
set_option maxRecDepth 100000

def nulls (m : Nat) : List Value := List.replicate m (.int .u8 0)
theorem nulls_one (m : Nat) : ∀ u ∈ nulls m, u.oneCell' = true := by
  intro u hu
  obtain ⟨_, rfl⟩ := List.mem_replicate.1 hu
  rfl
theorem zeroCells_u8 (m : Nat) : Builtin.zeroCells #[.int .u8 0] m = (nulls m).toArray := by
  unfold Builtin.zeroCells nulls
  apply Array.ext'
  simp only [Array.toList_map, Array.toList_range]
  apply List.ext_getElem?
  intro j
  simp only [List.getElem?_map, List.getElem?_replicate]
  by_cases hj : j < m
  · rw [List.getElem?_range (by simpa using hj), if_pos hj]
    have : j % (#[Value.int .u8 0] : Array Value).size = 0 := Nat.mod_one j
    simp [Nat.mod_one]
  · rw [if_neg hj, List.getElem?_eq_none (by simpa using hj)]
    rfl
section
variable {P : Program} {w w0 : World} {F : SP}
theorem run_appZ (t ti ty e : TypeId) (i : TypeInfo) (ht : P.underlying t = some (.slice e)) (hti : P.underlying ti = some (.int .i64)) (hi : P.info? e = some i) (hz : i.zero = some (.int .u8 0)) (hs : i.size = 1) (hb : i.bytes = 1)
    (g n cap m : Nat) (xs : List Value) (hS : Sat w0 (Row e 1 (.slice (some ⟨g, 0, none⟩) n cap) n xs * F) w) (h0 : 0 < m) (hm : n + m ≤ 1000000000) :
    ∃ A' c' w', (Builtin.append_ #[t, ti] ty #[.slice (some ⟨g, 0, none⟩) n cap, .int .i64 (m : Int)]).run P w = .ok (.slice A' (n + m) c') w' ∧ Sat w0 (Row e 1 (.slice A' (n + m) c') (n + m) (xs ++ nulls m) * F) w' := by
  obtain ⟨hl, ⟨e1, _⟩ | ⟨g', cap', cur, e1, hnc, hcm, hcs, htk, hP⟩⟩ := hS.row_cases
  · cases e1
  injection e1 with e1 _ e3
  injection e1 with e1
  injection e1 with e1
  subst e1; subst e3
  have hg : w.heap[g]? = some (.cells cur e (0, 0)) := hP.block
  rw [Nat.mul_one] at hl hcs htk
  have hw : IntKind.i64.wrap (m : Int) = m := by rw [IntKind.wrap_i64]; omega
  have hneg : ¬ (m : Int) < 0 := by omega
  have h48 : ¬ (281474976710656 : Int) < (m : Int) := by omega
  have hnl : (nulls m).length = m := List.length_replicate
  have hzc := zeroCells_u8 m
  by_cases hroom : n + m ≤ cap
  · have hst := run_storeCells_at P g n e (nulls m) 0 cur w hg (by rw [hnl]; omega) (nulls_one m)
    simp only [Nat.add_zero] at hst
    refine ⟨some ⟨g, 0, none⟩, cap, w.setRow g (cur.toList.take n ++ nulls m ++ cur.toList.drop (n + (nulls m).length)).toArray, ?_, ?_⟩
    · have h1 : ¬ m = 0 := by omega
      simp [Builtin.append_, run_underlying ht, run_underlying hti, sizeOf, typeInfo, hi, hs, hb, hroom, Addr.add_lit, hst, asInt, asIntOf, hw, hneg, h48, h1, zeroValue, hz, hzc, Value.cells]
    · have h5 : Sat w0 (Pt g e (cur.toList.take n ++ nulls m ++ cur.toList.drop (n + (nulls m).length)).toArray * F) _ := Sat.turn hP (w' := w.setRow g (cur.toList.take n ++ nulls m ++ cur.toList.drop (n + (nulls m).length)).toArray) ⟨rfl, rfl, rfl, by simp, fun k _ hk => setRow_other w g k _ (fun e => hk e)⟩ (setRow_heap w g cur _ e _ hg)
      have h6 := h5.row_pt (n := n + m) (cap := cap) (size := 1) hroom hcm (by simp; omega)
      refine h6.of ?_
      congr 2
      rw [Nat.mul_one, htk]
      show List.take (n + m) (xs ++ nulls m ++ _) = _
      exact List.take_left' (by rw [List.length_append, hl, hnl])
  · have h1 : ¬ m = 0 := by omega
    have holds : ∀ j u, xs[j]? = some u → w.cell? ((⟨g, 0, none⟩ : Addr).add j) = some u := (hS.row_own).cells (g := g) rfl
    have hfo := run_firstCells_some (P := P) w.drew i.size n ⟨g, 0, none⟩ n cap xs (by rw [hl, hs, Nat.mul_one]) (by simpa using holds)
    have h63' : ¬ (9223372036854775807 : Int) < (n : Int) + (m : Int) := by omega
    have hn48 : Builtin.nextslicecap (n + m) cap * i.bytes ≤ 281474976710656 := growslice_fits (by omega) (by rw [hb]; omega)
    have h48' : ¬ 281474976710656 < Builtin.nextslicecap (n + m) cap := by rw [hb, Nat.mul_one] at hn48; omega
    have hge := grownCap_ge w (n + m) cap e
    have hcm2 : grownCap w (n + m) cap e ≤ maxLen := grownCap_le_maxLen w (n + m) cap e (by unfold maxLen; omega)
    refine ⟨some ⟨w.heap.size, 0, none⟩, grownCap w (n + m) cap e, w.drew.alloc (.cells (xs.toArray ++ (nulls m).toArray ++ Builtin.zeroCells #[.int .u8 0] (grownCap w (n + m) cap e - (n + m))) e), ?_, ?_⟩
    · rw [hs] at hfo
      simp [Builtin.append_, run_underlying ht, run_underlying hti, sizeOf, typeInfo, hi, hs, hb, hroom, asInt, asIntOf, hw, hneg, h48, h1, zeroValue, hz, hzc, Value.cells, h63', h48', Question.forced, hfo, newRow, grownCap]
      congr 2
      apply Array.ext'
      simp [List.append_assoc]
    · have h5 := (hS.right.drew).allocPt e (xs.toArray ++ (nulls m).toArray ++ Builtin.zeroCells #[.int .u8 0] (grownCap w (n + m) cap e - (n + m)))
      have h6 := h5.row_pt (n := n + m) (cap := grownCap w (n + m) cap e) (size := 1) hge hcm2 (by rw [zeroCells_u8]; simp [hl, hnl]; unfold nulls; simp; omega)
      refine h6.of ?_
      congr 2
      rw [Nat.mul_one]
      simp only [Array.toList_append, List.append_assoc]
      rw [← List.append_assoc]
      exact List.take_left' (by rw [List.length_append, hl, hnl])
theorem wpList_appZ {ops : Array Oper} {o : Oper} {a : Act} {rest : List Oper} {Q : Exit → Act → World → Prop} (hgd : o.guard = none) (s x : Operand) (t ti e : TypeId) (i : TypeInfo)
    (ho : o.op = .call { callee := .builtin .append, args := #[s, x], argTypes := #[t, ti] }) (ht : P.underlying t = some (.slice e)) (hti : P.underlying ti = some (.int .i64)) (hi : P.info? e = some i) (hz : i.zero = some (.int .u8 0)) (hs : i.size = 1) (hb : i.bytes = 1)
    (g n cap m : Nat) (xs : List Value) (hev : a.eval s = .slice (some ⟨g, 0, none⟩) n cap) (hex : a.eval x = .int .i64 (m : Int)) (w0 : World) (F : SP) (hS : Sat w0 (Row e 1 (.slice (some ⟨g, 0, none⟩) n cap) n xs * F) w) (h0 : 0 < m) (hm : n + m ≤ 1000000000)
    (h : ∀ A' c' w', Sat w0 (Row e 1 (.slice A' (n + m) c') (n + m) (xs ++ nulls m) * F) w' → wpList P ops Q rest (a.put o.dst (.slice A' (n + m) c')) w') : wpList P ops Q (o :: rest) a w := by
  refine wpList_plain hgd fun K hK => ?_
  obtain ⟨A', c', w', hrun, h2⟩ := run_appZ (P := P) t ti o.type e i ht hti hi hz hs hb g n cap m xs hS h0 hm
  unfold Oper.wp execOp
  simp only [ho, resolve, invoke, builtin, Sem.run_bind, Sem.run_pure, Result.andThen_ok, List.map_toArray, List.map_cons, List.map_nil, hev, hex, hrun]
  exact hK _ _ (h _ _ _ h2)
end
end Go.Proofs.Ytjmapbhgjhlefaa
namespace Go.Proofs.Ytjmapbhgjhlefaa
open Go.RowKit
set_option linter.unusedVariables false
set_option maxRecDepth 100000

theorem info_sl : (Try.prog.info? 39).map (fun i => (i.zero, i.size, i.bytes)) = some (some (.slice none 0 0), 1, 24) := by kernel_rfl

theorem own_type {w : World} {base e n : Nat} {v : Value} {xs : List Value} (h : w.ownsRow base e 1 v n xs) {g : Nat} (hg : v.ownBlock = some g) : ∃ cur, At w g e cur := by
  rcases h.2 with ⟨rfl, _⟩ | ⟨g', cap, cur, rfl, _, hh, _⟩
  · simp [Value.ownBlock] at hg
  · simp [Value.ownBlock] at hg
    subst hg
    exact ⟨cur, hh⟩
theorem own_ne {w : World} {base e n base' e' n' : Nat} {v v' : Value} {xs xs' : List Value} (h : w.ownsRow base e 1 v n xs) (h' : w.ownsRow base' e' 1 v' n' xs') (hne : e ≠ e') : ∀ g, v.ownBlock = some g → v'.ownBlock ≠ some g := by
  intro g hg hg'
  obtain ⟨c, hc⟩ := own_type h hg
  obtain ⟨c', hc'⟩ := own_type h' hg'
  exact hc.ne hc' hne rfl

theorem own_ne_at {w : World} {base e n g t : Nat} {v : Value} {xs : List Value} {cs : Array Value} (h : w.ownsRow base e 1 v n xs) (hg : At w g t cs) (hne : e ≠ t) : some g ≠ v.ownBlock := by
  intro hv
  obtain ⟨cur, hc⟩ := own_type h hv.symm
  exact hc.ne hg hne rfl
theorem own_base {w : World} {base base' e size n : Nat} {v : Value} {xs : List Value} (h : w.ownsRow base e size v n xs) (hb : base' ≤ base) : w.ownsRow base' e size v n xs := by
  refine ⟨h.1, ?_⟩
  rcases h.2 with h2 | ⟨g, cap, cur, e, hg, r⟩
  · exact .inl h2
  · exact .inr ⟨g, cap, cur, e, Nat.le_trans hb hg, r⟩
/-- Each of the rows is the call's own, and no two share a block. -/
structure OwnL (base : Nat) (w : World) (ks : Rows_) : Prop where
  own : ∀ k ∈ ks, w.ownsRow base 5 1 (slOf k) k.2.2.length (k.2.2.map bv)
  apart : ks.Pairwise fun a b => ∀ g, (slOf a).ownBlock = some g → (slOf b).ownBlock ≠ some g
/-- The list itself: its row, and the rows. -/
structure OwnLL (base : Nat) (w : World) (v : Value) (ks : Rows_) : Prop where
  row : w.ownsRow base 39 1 v ks.length (ks.map slOf)
  each : OwnL base w ks
section
variable {base : Nat} {w w' : World} {v : Value} {ks : Rows_}
theorem OwnL.nil (base : Nat) (w : World) : OwnL base w [] := ⟨by simp, List.Pairwise.nil⟩
theorem OwnLL.nil (base : Nat) (w : World) : OwnLL base w (.slice none 0 0) [] := ⟨World.ownsRow_nil _ _ _ _, OwnL.nil _ _⟩
theorem OwnL.chg {S : Nat → Prop} (h : OwnL base w ks) (k : Chg S w w') (hS : ∀ x ∈ ks, ∀ g, (slOf x).ownBlock = some g → ¬ S g) : OwnL base w' ks :=
  ⟨fun x hx => own_chg (h.own x hx) k (hS x hx), h.apart⟩
theorem OwnL.new (h : OwnL base w ks) (k : Chg No w w') : OwnL base w' ks := h.chg k fun _ _ _ _ => id
theorem OwnLL.new (h : OwnLL base w v ks) (k : Chg No w w') : OwnLL base w' v ks := ⟨own_chg h.row k fun _ _ => id, h.each.new k⟩
theorem OwnLL.old {B : Nat} (h : OwnLL base w v ks) (k : Chg (From B) w w') (hb : w.heap.size ≤ B) : OwnLL base w' v ks :=
  ⟨own_chg h.row k fun g hg => by have := h.row.lt g hg; unfold From; omega, h.each.chg k fun x hx g hg => by have := (h.each.own x hx).lt g hg; unfold From; omega⟩
theorem OwnL.mono {base' : Nat} (h : OwnL base w ks) (hb : base' ≤ base) : OwnL base' w ks := by
  refine ⟨fun x hx => ?_, h.apart⟩
  obtain ⟨h1, h2⟩ := h.own x hx
  refine ⟨h1, ?_⟩
  rcases h2 with h2 | ⟨g, cap, cur, e, hg, r⟩
  · exact .inl h2
  · exact .inr ⟨g, cap, cur, e, Nat.le_trans hb hg, r⟩
/-- What lies there reads as the texts. -/
theorem OwnL.rd (h : OwnL base w ks) {x : Option Addr × Nat × List UInt8} (hx : x ∈ ks) : Rd w x.1 x.2.2 := RdV.of_own (h.own x hx)
theorem OwnLL.rdl (h : OwnLL base w v ks) : ∃ A c, v = .slice A ks.length c ∧ RdL w A ks ∧ ks.length ≤ c ∧ c ≤ maxLen ∧ ∀ b o, A = some ⟨b, o, none⟩ → base ≤ b := by
  obtain ⟨A, c, rfl, h1, h2, h3, h4⟩ := own_rd h.row
  exact ⟨A, c, rfl, ⟨h1, fun x hx => h.each.rd hx⟩, h2, h3, h4⟩
theorem OwnL.caps (h : OwnL base w ks) : ∀ k ∈ ks, k.2.2.length ≤ k.2.1 ∧ k.2.1 ≤ maxLen := fun k hk => by
  obtain ⟨A, c, e, _, h1, h2, _⟩ := own_rd (h.own k hk)
  unfold slOf at e
  injection e with _ _ e
  rw [e]
  exact ⟨h1, h2⟩
/-- One row more, of new memory. -/
theorem OwnL.snoc {base2 : Nat} (h : OwnL base w ks) {x : Option Addr × Nat × List UInt8} (hx : w.ownsRow base2 5 1 (slOf x) x.2.2.length (x.2.2.map bv)) (hb : base ≤ base2) (hlt : ∀ k ∈ ks, ∀ g, (slOf k).ownBlock = some g → g < base2) : OwnL base w (ks ++ [x]) := by
  refine ⟨fun k hk => ?_, ?_⟩
  · rcases List.mem_append.1 hk with h1 | h1
    · exact h.own k h1
    · simp at h1
      subst h1
      have hm : OwnL base2 w [k] := ⟨fun y hy => by simp at hy; subst hy; exact hx, by simp⟩
      exact (hm.mono hb).own k (by simp)
  · rw [List.pairwise_append]
    refine ⟨h.apart, by simp, fun a ha b hb' g hg hg' => ?_⟩
    simp at hb'
    subst hb'
    have h1 := hlt a ha g hg
    have h2 := (hx.lt g hg').1
    omega
theorem slOf_one (ks : Rows_) : ∀ u ∈ ks.map slOf, u.oneCell' = true := by
  intro u hu
  obtain ⟨k, _, rfl⟩ := List.mem_map.1 hu
  rfl
theorem own_sl {n : Nat} {l : List UInt8} (h : w.ownsRow base 5 1 v n (l.map bv)) : ∃ A c, v = .slice A l.length c ∧ n = l.length := by
  have hn : n = l.length := by simpa using h.1.symm
  subst hn
  obtain ⟨A, c, rfl, _⟩ := own_rd h
  exact ⟨A, c, rfl, rfl⟩
/-- What an append of one row to a list of rows leaves. -/
theorem OwnLL.appd {base2 : Nat} {x : Option Addr × Nat × List UInt8} {w1 : World} {v' : Value} (h : OwnLL base w v ks) (hx : w.ownsRow base2 5 1 (slOf x) x.2.2.length (x.2.2.map bv)) (hb : base ≤ base2)
    (hlt : ∀ k ∈ ks, ∀ g, (slOf k).ownBlock = some g → g < base2) (hap : Appd base 39 1 w v ks.length 1 (ks.map slOf ++ [slOf x]) v' w1) : OwnLL base w1 v' (ks ++ [x]) := by
  refine ⟨by simpa using hap.own, ?_⟩
  refine (h.each.snoc hx hb hlt).chg hap.chg fun y hy g hg => ?_
  intro e
  have hy' := (h.each.snoc hx hb hlt).own y hy
  exact own_ne hy' h.row (by decide) g hg e.symm
end

/-- A quiet call behind draws. -/
theorem quiet_add_same' {P : Program} {f : FuncId} {args : Array Value} {w : World} {a n : Nat} {v : Value}
    (h : Calls P f args (w.drewN (a + n)) fun e w' => e = .returned v ∧ w' = w.drewN (a + n)) : Calls P f args (w.drewN (a + n)) fun e w'' => e = .returned v ∧ ∃ m, w'' = w.drewN (a + m) :=
  h.mono fun _ _ ⟨he, hm⟩ => ⟨he, n, hm⟩
end Go.Proofs.Ytjmapbhgjhlefaa
namespace Go.Proofs.Ytjmapbhgjhlefaa
open Go.RowKit
set_option linter.unusedVariables false

/-- octet.Join: a row of its own. -/
def Joined (l : List UInt8) (w : World) (e : Ending) (w' : World) : Prop := ∃ v, e = .returned v ∧ w'.ownsRow w.heap.size 5 1 v l.length (l.map bv) ∧ Chg No w w'
theorem flat_take (ks : Rows_) (k : Nat) (h : k < ks.length) : (txt (ks.take (k + 1))).flatten = (txt (ks.take k)).flatten ++ ks[k].2.2 := by
  rw [List.take_succ_eq_append_getElem h, txt, List.map_append, List.flatten_append]
  simp [txt]
theorem flat_le (ks : Rows_) (k : Nat) : (txt (ks.take k)).flatten.length ≤ (txt ks).flatten.length := by
  conv => rhs; rw [← List.take_append_drop k ks]
  rw [txt, txt, List.map_append, List.flatten_append, List.length_append]
  omega
set_option maxHeartbeats 1000000 in
theorem join_any (A : Option Addr) (c : Nat) (ks : Rows_) (w : World) (h : RdL w A ks) (htot : (txt ks).flatten.length ≤ 140737488355328) (hks : ks.length ≤ 140737488355328) :
    Calls Try.prog 80 #[.slice A ks.length c] w (Joined (txt ks).flatten w) := by
  obtain ⟨i0, hi, hz0, hz1, hz2⟩ := info_parts info_u8
  have HR := Lib.hid h
  have HT := Lib.hid htot
  clear h htot
  go_enter Try.func80, Try.ntmps80
  go_wp2
  go_loopw [3, 5, 8] (fun v _ i wr => ∃ k : Nat, k ≤ ks.length ∧ i = .int .i64 k ∧ Hid (wr.ownsRow w.heap.size 5 1 v (txt (ks.take k)).flatten.length ((txt (ks.take k)).flatten.map bv) ∧ Chg No w wr)) (fun _ _ i _ => ks.length - (intOf i).toNat)
  case atStart => exact ⟨0, by omega, rfl, World.ownsRow_nil _ _ _ _, Chg.refl _ _⟩
  case round =>
    obtain ⟨k, hk, rfl, HD⟩ := hrel
    by_cases hlt : k < ks.length
    · obtain ⟨⟨b, o, rfl, hc⟩, hx⟩ := (HR.out.new HD.out.2).get hlt
      have HX := Lib.hid hx
      have HF := Lib.hid (flat_take ks k hlt)
      have hle1 := flat_le ks (k + 1)
      rw [HF.out, List.length_append] at hle1
      have L1 : Hid ((txt (ks.take k)).flatten.length + ks[k].2.2.length ≤ 140737488355328 ∧ w.heap.size ≤ wr.heap.size) := ⟨by have := HT.out; omega, HD.out.2.size⟩
      clear hx hle1
      generalize ks[k] = x at *
      generalize (txt (ks.take k)).flatten = pre at *
      go_wp2_with (at_builtin; refine wpList_app rfl (.tmp 12) (.tmp 13) 39 rfl w.heap.size 5 i0 _ 1 1 Try.underlying39 hi hz0 hz1 hz2 rfl (by decide) u3 pre.length (pre.map bv) rfl HD.out.1 x.1 x.2.2.length x.2.1 (x.2.2.map bv) rfl HX.out (by simp) (bv_one _) (by have := L1.out.1; unfold maxLen; omega) (by have := L1.out.1; omega) L1.out.2 ?_; intro v3 w3 hap; have HA := Lib.hid hap; clear hap)
      go_roundw
      case rel =>
        refine ⟨k + 1, by omega, by go_num, ?_, HA.out.old HD.out.2 HD.out.1 (Nat.le_refl _)⟩
        rw [HF.out, List.map_append, List.length_append]
        exact HA.out.own
      case measure => simp [intOf]; omega
    · have ht : ks.take k = ks := List.take_of_length_le (by omega)
      rw [ht] at HD
      clear ht
      go_wp2_with fail
      go_ret
      exact ⟨_, rfl, HD.out.1, HD.out.2⟩

end Go.Proofs.Ytjmapbhgjhlefaa
namespace Go.Proofs.Ytjmapbhgjhlefaa
open Go.RowKit
set_option linter.unusedVariables false
set_option maxRecDepth 100000

def ptrV (p : Nat) : Value := .pointer (some ⟨p, 0, none⟩)
def flC (f : Fl) (v : Value) : Array Value := #[.int .i64 (f.num : Int), .int .i64 (f.first : Int), .int .i64 (f.blocks : Int), .int .u64 (f.birth : Int), .int .u64 (f.life : Int), v]
/-- A file in memory. -/
def FlP (p : Nat) (f : Fl) : SP := fun h => ∃ v ks, txt ks = f.frames ∧ (Pt p 110 (flC f v) * (Row 39 1 v ks.length (ks.map slOf) * RoL ks)) h
def FlsP : List (Nat × Fl) → SP
  | [] => Emp
  | x :: l => FlP x.1 x.2 * FlsP l
def SpaceC (s d slot turn : Nat) (v : Value) (ps : List (Nat × Fl)) : SP :=
  Pt s 102 #[ptrV d, .int .i64 (slot : Int), .int .u64 (turn : Int), v] * (Row 104 1 v ps.length (ps.map fun x => ptrV x.1) * FlsP ps)
def SpaceP (s d : Nat) (S : Spc) : SP := fun h => ∃ v ps, ps.map (·.2) = S.files ∧ SpaceC s d S.slot S.turn v ps h
section
variable {w0 w : World} {F : SP} {p s d slot turn : Nat} {f : Fl} {v : Value} {ks : Rows_} {ps : List (Nat × Fl)} {S : Spc}
theorem Sat.fl (h : Sat w0 (FlP p f * F) w) : ∃ v ks, txt ks = f.frames ∧ Sat w0 (Pt p 110 (flC f v) * (Row 39 1 v ks.length (ks.map slOf) * (RoL ks * F))) w := by
  obtain ⟨c, x, h1, a, g, h2, h3, ⟨v, ks, h4, h5⟩, h6⟩ := h
  refine ⟨v, ks, h4, Sat.of (A := (Pt p 110 (flC f v) * (Row 39 1 v ks.length (ks.map slOf) * RoL ks)) * F) ⟨c, x, h1, a, g, h2, h3, h5, h6⟩ ?_⟩
  ac_rfl
theorem Sat.flI (ht : txt ks = f.frames) (h : Sat w0 (Pt p 110 (flC f v) * (Row 39 1 v ks.length (ks.map slOf) * (RoL ks * F))) w) : Sat w0 (FlP p f * F) w := by
  have h2 : Sat w0 ((Pt p 110 (flC f v) * (Row 39 1 v ks.length (ks.map slOf) * RoL ks)) * F) w := h.of (by ac_rfl)
  exact h2.mono fun y ⟨a, g, h3, h4, h5, h6⟩ => ⟨a, g, h3, h4, ⟨v, ks, ht, h5⟩, h6⟩
theorem fls_app : ∀ (a b : List (Nat × Fl)), FlsP (a ++ b) = FlsP a * FlsP b
  | [], b => by show FlsP b = Emp * FlsP b; rw [emp_star]
  | x :: a, b => by show FlP x.1 x.2 * FlsP (a ++ b) = (FlP x.1 x.2 * FlsP a) * FlsP b; rw [fls_app a b, star_assoc]
theorem fls_one (x : Nat × Fl) : FlsP [x] = FlP x.1 x.2 := by show FlP x.1 x.2 * Emp = _; rw [star_emp]
theorem fls_perm {a b : List (Nat × Fl)} (h : a.Perm b) : FlsP a = FlsP b := by
  induction h with
  | nil => rfl
  | cons x _ ih => show FlP x.1 x.2 * _ = FlP x.1 x.2 * _; rw [ih]
  | swap x y l => show FlP y.1 y.2 * (FlP x.1 x.2 * FlsP l) = FlP x.1 x.2 * (FlP y.1 y.2 * FlsP l); rw [star_left]
  | trans _ _ i1 i2 => exact i1.trans i2
theorem fls_at' : ∀ (ps : List (Nat × Fl)) (i : Nat) (h : i < ps.length), FlsP ps = FlP ps[i].1 ps[i].2 * FlsP (ps.eraseIdx i)
  | x :: l, 0, h => rfl
  | x :: l, i + 1, h => by
    have hi : i < l.length := by simpa using h
    show FlP x.1 x.2 * FlsP l = FlP l[i].1 l[i].2 * (FlP x.1 x.2 * FlsP (l.eraseIdx i))
    rw [fls_at' l i hi, star_left]
theorem fls_at {i : Nat} (h : i < ps.length) : FlsP ps = FlP ps[i].1 ps[i].2 * FlsP (ps.eraseIdx i) := fls_at' ps i h
theorem fls_set {i : Nat} (h : i < ps.length) (x : Nat × Fl) : FlsP (ps.set i x) = FlP x.1 x.2 * FlsP (ps.eraseIdx i) := by
  have h2 : i < (ps.set i x).length := by rw [List.length_set]; exact h
  rw [fls_at h2, List.getElem_set_self, List.eraseIdx_set_eq]
theorem Sat.space (h : Sat w0 (SpaceP s d S * F) w) : ∃ v ps, ps.map (·.2) = S.files ∧ Sat w0 (SpaceC s d S.slot S.turn v ps * F) w := by
  obtain ⟨c, x, h1, a, g, h2, h3, ⟨v, ps, h4, h5⟩, h6⟩ := h
  exact ⟨v, ps, h4, c, x, h1, a, g, h2, h3, h5, h6⟩
theorem Sat.spaceI (ht : ps.map (·.2) = S.files) (h : Sat w0 (SpaceC s d S.slot S.turn v ps * F) w) : Sat w0 (SpaceP s d S * F) w :=
  h.mono fun y ⟨a, g, h3, h4, h5, h6⟩ => ⟨a, g, h3, h4, ⟨v, ps, ht, h5⟩, h6⟩
theorem space_d : SpaceC s d slot turn v ps * F = Pt s 102 #[ptrV d, .int .i64 (slot : Int), .int .u64 (turn : Int), v] * (Row 104 1 v ps.length (ps.map fun x => ptrV x.1) * (FlsP ps * F)) := by
  unfold SpaceC; ac_rfl
/-- The i-th file ahead of all. -/
theorem space_at {i : Nat} (h : i < ps.length) : SpaceC s d slot turn v ps * F = FlP ps[i].1 ps[i].2 * (Pt s 102 #[ptrV d, .int .i64 (slot : Int), .int .u64 (turn : Int), v] * (Row 104 1 v ps.length (ps.map fun x => ptrV x.1) * (FlsP (ps.eraseIdx i) * F))) := by
  rw [space_d, fls_at h]; ac_rfl
/-- What is read of a space: its cells, its row of files, a file's cells. -/
theorem Sat.spaceR (h : Sat w0 (SpaceC s d slot turn v ps * F) w) : ∃ A c, v = .slice A ps.length c ∧ ps.length ≤ c ∧ c ≤ maxLen ∧ RdV w A (ps.map fun x => ptrV x.1) ∧
    (w.cell? ⟨s, 0, none⟩ = some (ptrV d) ∧ w.cell? ⟨s, 1, none⟩ = some (.int .i64 (slot : Int)) ∧ w.cell? ⟨s, 2, none⟩ = some (.int .u64 (turn : Int)) ∧ w.cell? ⟨s, 3, none⟩ = some v) := by
  have h1 := h.of space_d
  obtain ⟨A, c, rfl, h2, h3⟩ := h1.up2.row_sl
  exact ⟨A, c, rfl, h2, h3, RdV.of_own h1.up2.row_own, h1.cell 0, h1.cell 1, h1.cell 2, h1.cell 3⟩
theorem Sat.spaceF (h : Sat w0 (SpaceC s d slot turn v ps * F) w) {i : Nat} (hi : i < ps.length) : ∃ u ks, txt ks = ps[i].2.frames ∧ (w.cell? ⟨ps[i].1, 0, none⟩ = some (.int .i64 (ps[i].2.num : Int)) ∧ w.cell? ⟨ps[i].1, 1, none⟩ = some (.int .i64 (ps[i].2.first : Int)) ∧ w.cell? ⟨ps[i].1, 2, none⟩ = some (.int .i64 (ps[i].2.blocks : Int)) ∧
    w.cell? ⟨ps[i].1, 3, none⟩ = some (.int .u64 (ps[i].2.birth : Int)) ∧ w.cell? ⟨ps[i].1, 4, none⟩ = some (.int .u64 (ps[i].2.life : Int)) ∧ w.cell? ⟨ps[i].1, 5, none⟩ = some u) ∧ ∃ A c, u = .slice A ks.length c ∧ ks.length ≤ c ∧ c ≤ maxLen ∧ RdL w A ks := by
  obtain ⟨u, ks, h1, h2⟩ := (h.of (space_at hi)).fl
  obtain ⟨A, c, e, h3, h4⟩ := h2.up2.row_sl
  refine ⟨u, ks, h1, ⟨h2.cell 0, h2.cell 1, h2.cell 2, h2.cell 3, h2.cell 4, h2.cell 5⟩, A, c, e, h3, h4, ?_, ?_⟩
  · subst e; exact RdV.of_own h2.up2.row_own
  · intro k hk; exact h2.up3.rol hk
end
/-- The place of the file of a number. -/
def idxN (ps : List (Nat × Fl)) (n : Int) : Nat := ps.findIdx fun x => ((x.2.num : Nat) : Int) == n
theorem idxN_le (ps : List (Nat × Fl)) (n : Int) : idxN ps n ≤ ps.length := List.findIdx_le_length
theorem idxN_here {ps : List (Nat × Fl)} {n : Int} {i : Nat} (hi : i < ps.length) (h1 : (ps[i].2.num : Int) = n) (h2 : ∀ j (hj : j < i), ((ps[j]'(by omega)).2.num : Int) ≠ n) : idxN ps n = i := by
  unfold idxN
  rw [List.findIdx_eq hi]
  exact ⟨by simpa using h1, fun j hj => by simpa using h2 j hj⟩
theorem idxN_none {ps : List (Nat × Fl)} {n : Int} (h2 : ∀ j (hj : j < ps.length), (ps[j].2.num : Int) ≠ n) : idxN ps n = ps.length := by
  unfold idxN
  rw [List.findIdx_eq_length]
  intro x hx
  obtain ⟨j, hj, rfl⟩ := List.getElem_of_mem hx
  simpa using h2 j hj
theorem idxN_find {ps : List (Nat × Fl)} {S : Spc} (ht : ps.map (·.2) = S.files) (n : Int) : S.find n = (ps[idxN ps n]?).map (·.2) := by
  unfold Spc.find idxN
  rw [← ht, List.find?_map]
  rw [← List.find?_eq_getElem?_findIdx]
  rfl
end Go.Proofs.Ytjmapbhgjhlefaa
namespace Go.Proofs.Ytjmapbhgjhlefaa
open Go.RowKit
set_option linter.unusedVariables false
set_option maxRecDepth 100000

section
variable {w0 w : World} {F : SP} {s d slot turn : Nat} {v : Value} {ps : List (Nat × Fl)}
def ptrO (o : Option (Nat × Fl)) : Value := match o with | some x => ptrV x.1 | none => .pointer none
theorem ptr_get {A : Option Addr} {k : Nat} (h : RdV w A (ps.map fun x => ptrV x.1)) (hk : k < ps.length) : ∃ b o, A = some ⟨b, o, none⟩ ∧ w.cell? ⟨b, o + k, none⟩ = some (.pointer (some ⟨ps[k].1, 0, none⟩)) := by
  obtain ⟨b, o, e, hc⟩ := h (by intro e; have := congrArg List.length e; simp at this; rw [this] at hk; simp at hk)
  refine ⟨b, o, e, ?_⟩
  have := hc k (by simpa using hk)
  rw [this]
  simp [ptrV]
set_option maxHeartbeats 1000000 in
theorem find_any (n : Int) (h : Sat w0 (SpaceC s d slot turn v ps * F) w) (hl : ps.length ≤ 1000000) :
    Calls Try.prog 69 #[.pointer (some ⟨s, 0, none⟩), .int .i64 n] w fun e w' => e = .returned (ptrO ps[idxN ps n]?) ∧ w = w' := by
  obtain ⟨A, c, rfl, h1, h2, h3, h4, h5, h6, h7⟩ := h.spaceR
  have HS := Lib.hid h
  have HR := Lib.hid h3
  clear h h3 h4 h5 h6
  go_enter Try.func69, Try.ntmps69
  go_wp2_with fail
  go_loopw [6, 12] (fun _ iv wr => ∃ k : Nat, k ≤ ps.length ∧ iv = .int .i64 (k : Int) ∧ wr = w ∧ Hid (∀ j (hj : j < k) (hl : j < ps.length), (ps[j].2.num : Int) ≠ n)) (fun _ iv _ => ps.length - (intOf iv).toNat)
  case atStart => exact ⟨0, by omega, rfl, rfl, fun j hj => by omega⟩
  case round =>
    obtain ⟨k, hk, rfl, rfl, HD⟩ := hrel
    by_cases hlt : k < ps.length
    · obtain ⟨b, o, rfl, hc⟩ := ptr_get HR.out hlt
      obtain ⟨u, ks, hks, hg, hu⟩ := HS.out.spaceF hlt
      have g0 := hg.1
      clear hg hu
      have hk2 : (k : Int) < ps.length := by omega
      by_cases e : (ps[k].2.num : Int) = n
      · have HE : Hid (idxN ps n = k) := idxN_here hlt e (fun j hj => HD.out j hj (by omega))
        have HE2 : Hid (ptrO ps[k]? = .pointer (some ⟨ps[k].1, 0, none⟩)) := by unfold Hid ptrO; rw [List.getElem?_eq_getElem hlt]; rfl
        clear hks
        generalize ps[k].2.num = m at *
        generalize ps[k].1 = q at *
        subst e
        go_wp2_with fail
        go_ret
        refine ⟨?_, rfl⟩
        rw [HE.out, HE2.out]
        rfl
      · have HN : Hid (∀ j (hj : j < k + 1) (hl : j < ps.length), (ps[j].2.num : Int) ≠ n) := fun j hj hl => by
          by_cases ej : j = k
          · subst ej; exact e
          · exact HD.out j (by omega) hl
        clear hks
        generalize ps[k].2.num = m at *
        generalize ps[k].1 = q at *
        go_wp2_with fail
        go_roundw
        · exact ⟨k + 1, by omega, by push_cast; rfl, trivial, HN.out⟩
        · simp [intOf]; omega
    · have HE : Hid (idxN ps n = ps.length) := idxN_none (fun j hj => HD.out j (by omega) hj)
      have hk2 : ¬ (k : Int) < ps.length := by omega
      go_wp2_with fail
      go_ret
      refine ⟨?_, rfl⟩
      rw [HE.out, List.getElem?_eq_none (Nat.le_refl _)]
      rfl
theorem fileT : (Try.prog.info? 35).map (fun i => (i.zero, i.size, i.bytes)) = some (some (.agg #[.int .i64 0, .int .i64 0, .int .i64 0]), 3, 24) := by kernel_rfl
/-- A file as it is told. -/
def fiV (f : Fl) : List Value := [.int .i64 (f.num : Int), .int .i64 (f.first : Int), .int .i64 (f.blocks : Int)]
theorem fiV_len (f : Fl) : (fiV f).length = 3 := rfl
theorem fis_len : ∀ fs : List Fl, (fs.flatMap fiV).length = fs.length * 3
  | [] => rfl
  | f :: fs => by rw [List.flatMap_cons, List.length_append, fis_len fs, fiV_len, List.length_cons]; omega
theorem fis_one (fs : List Fl) : ∀ u ∈ fs.flatMap fiV, u.oneCell' = true := by
  intro u hu
  obtain ⟨f, _, h⟩ := List.mem_flatMap.1 hu
  simp [fiV] at h
  rcases h with rfl | rfl | rfl <;> rfl
set_option maxHeartbeats 1000000 in
theorem files_any (h : Sat w0 (SpaceC s d slot turn v ps * F) w) (hl : ps.length ≤ 1000000) :
    Calls Try.prog 32 #[.pointer (some ⟨s, 0, none⟩)] w fun e w' => ∃ u, e = .returned u ∧ Sat w0 (Row 35 3 u ps.length ((ps.map (·.2)).flatMap fiV) * (SpaceC s d slot turn v ps * F)) w' := by
  obtain ⟨i0, hi0', hz0', hz1', hz2'⟩ := info_parts fileT
  have hi0 := Lib.hid hi0'; have hz0 := Lib.hid hz0'; have hz1 := Lib.hid hz1'; have hz2 := Lib.hid hz2'
  obtain ⟨A, c, rfl, h1, h2, h3, h4, h5, h6, h7⟩ := h.spaceR
  have HS := Lib.hid h
  have HR := Lib.hid h3
  clear h h3 h4 h5 h6 hi0' hz0' hz1' hz2'
  go_enter Try.func32, Try.ntmps32
  go_wp2_with fail
  go_loopw [3, 5, 11] (fun ov _ iv wr => ∃ (k : Nat) (C : Option Addr) (cc : Nat), k ≤ ps.length ∧ ov = .slice C k cc ∧ iv = .int .i64 (k : Int) ∧ Hid (Sat w0 (Row 35 3 (.slice C k cc) k (((ps.take k).map (·.2)).flatMap fiV) * (SpaceC s d slot turn (.slice A ps.length c) ps * F)) wr)) (fun _ _ iv _ => ps.length - (intOf iv).toNat)
  case atStart => exact ⟨0, none, 0, by omega, rfl, rfl, HS.out.row_nil _ 3⟩
  case round =>
    obtain ⟨k, C, cc, hk, rfl, rfl, HD⟩ := hrel
    by_cases hlt : k < ps.length
    · obtain ⟨A2, c2, e9, _, _, hR2, _⟩ := HD.out.right.spaceR
      injection e9 with e9 _ e8
      subst e9; subst e8
      obtain ⟨b, o, rfl, hc⟩ := ptr_get hR2 hlt
      obtain ⟨u, ks, hks, hg, hu⟩ := HD.out.right.spaceF hlt
      have g0 := hg.1; have g1 := hg.2.1; have g2 := hg.2.2.1
      have hk2 : (k : Int) < ps.length := by omega
      have HT : Hid (((ps.take (k + 1)).map (·.2)).flatMap fiV = ((ps.take k).map (·.2)).flatMap fiV ++ [.int .i64 (ps[k].2.num : Int), .int .i64 (ps[k].2.first : Int), .int .i64 (ps[k].2.blocks : Int)]) := by
        unfold Hid
        rw [List.take_succ_eq_append_getElem hlt, List.map_append, List.flatMap_append]
        rfl
      clear hg hu hks hR2
      generalize ps[k].2.num = m0 at *
      generalize ps[k].2.first = m1 at *
      generalize ps[k].2.blocks = m2 at *
      generalize ps[k].1 = q at *
      go_wp2_with (at_builtin; refine wpList_appS rfl (.tmp 15) (.tmp 20) 36 rfl 35 i0 _ 3 24 Try.underlying36 hi0.out hz0.out hz1.out hz2.out rfl (by decide) (.slice C k cc) k _ rfl w0 _ (by exact HD.out.alloc' _) (some ⟨wr.heap.size, 0, none⟩) 1 1 [.int .i64 (m0 : Int), .int .i64 (m1 : Int), .int .i64 (m2 : Int)] rfl (lit_rdv _ _ _) rfl (by intro u hu; simp at hu; rcases hu with rfl | rfl | rfl <;> rfl) (by unfold maxLen; omega) (by omega) ?_; intro A3 c3 w3 hs; have HS3 := Lib.hid hs; clear hs)
      go_roundw
      · exact ⟨k + 1, A3, c3, by omega, rfl, by push_cast; rfl, by rw [HT.out]; exact HS3.out⟩
      · simp [intOf]; omega
    · obtain rfl : k = ps.length := by omega
      have hk2 : ¬ ((ps.length : Nat) : Int) < ps.length := by omega
      go_wp2_with fail
      go_ret
      exact ⟨_, rfl, by rw [← List.take_length (l := ps)]; simpa using HD.out⟩
end
end Go.Proofs.Ytjmapbhgjhlefaa
