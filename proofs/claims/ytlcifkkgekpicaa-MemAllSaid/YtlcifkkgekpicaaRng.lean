/- What a range tells is what lies between the bounds. -/
import Derived.Test.YtlcifkkgekpicaaRFns2
import Derived.Test.YtlcifkkgekpicaaMemHeights
namespace Go.Proofs.Ytlcifkkgekpicaa
open Go.RowKit
set_option linter.unusedVariables false

theorem filter_take {p : Ent → Bool} : ∀ {L : List Ent}, L.Pairwise (fun x y => p y = true → p x = true) → L.filter p = L.takeWhile p
  | [], _ => rfl
  | x :: L, h => by
    rw [List.pairwise_cons] at h
    rw [List.filter_cons, List.takeWhile_cons]
    by_cases hp : p x = true
    · rw [if_pos hp, if_pos hp, filter_take h.2]
    · rw [if_neg hp, if_neg hp]
      exact List.filter_eq_nil_iff.2 fun y hy hpy => hp (h.1 y hy hpy)
theorem dw_sub (f : Ent → Bool) (L : List Ent) : (L.dropWhile f).Sublist L := (List.dropWhile_suffix f).sublist
theorem rng_told {ns : List Nd} {n : Nat} (ht : Tab ns n) (fl tl : List UInt8) : rangeE fl tl ns = rngL fl tl (fsts ns) := by
  have hL : fsts ns = ns.map fun n => n.e.ent := by unfold fsts absL; rw [List.map_map]; rfl
  have hs := fsts_sort ht.ok
  have hb : (behind (fromE fl) ns).map (fun n => n.e.ent) = (fsts ns).dropWhile (fun x => lessE x (fromE fl)) := by
    rw [hL]
    unfold behind
    clear ht hs hL
    induction ns with
    | nil => rfl
    | cons n ns ih =>
      rw [List.map_cons, List.dropWhile_cons, List.dropWhile_cons]
      show List.map _ (if lessE n.e.ent (fromE fl) = true then _ else _) = if lessE n.e.ent (fromE fl) = true then _ else _
      split
      · exact ih
      · rfl
  have hv : ∀ m ∈ behind (fromE fl) ns, 0 < m.v := fun m hm => by
    have : m ∈ ns := (List.dropWhile_suffix _).sublist.subset hm
    have := ht.ok.full m this
    omega
  unfold rangeE witE
  rw [List.filter_eq_self.2 (fun m hm => by simpa using hv m hm), hb]
  have hseq : ∀ x ∈ fsts ns, x.seq ≤ topSeq := by
    intro x hx
    rw [hL] at hx
    obtain ⟨m, hm, rfl⟩ := List.mem_map.1 hx
    exact (ht.each m hm).2.2
  generalize fsts ns = L at *
  have hkey : ∀ x y : Ent, LTE x y → Lib.compareBytes y.key tl < 0 → Lib.compareBytes x.key tl < 0 := by
    intro x y h k
    rw [lte_iff] at h
    rcases h with h | ⟨h, _⟩
    · exact cb_trans h k
    · rw [h]; exact k
  have e0 := split_at (fun x => lessE x (fromE fl)) L
  have hA : ∀ x ∈ L.takeWhile (fun x => lessE x (fromE fl)), inR fl tl x = false := by
    intro x hx
    have h1 : LTE x (fromE fl) := tw_mem (f := fun x => lessE x (fromE fl)) hx
    have hx2 : x ∈ L := (List.takeWhile_sublist _).subset hx
    rw [lte_iff] at h1
    rcases h1 with h1 | ⟨_, h1⟩
    · unfold inR
      have h1 : Lib.compareBytes x.key fl < 0 := h1
      rw [cb_less, decide_eq_true h1]
      rfl
    · exfalso
      have h1 : topSeq < x.seq := h1
      have := hseq x hx2
      omega
  have hB : ∀ x ∈ L.dropWhile (fun x => lessE x (fromE fl)), Op.bytesLess x.key fl = false := by
    intro x hx
    have hs2 := hs.sublist (dw_sub (fun x => lessE x (fromE fl)) L)
    cases hd : L.dropWhile (fun x => lessE x (fromE fl)) with
    | nil => rw [hd] at hx; simp at hx
    | cons y s =>
      have h3 := List.head?_dropWhile_not (fun x => lessE x (fromE fl)) L
      rw [hd] at h3 hx hs2
      simp at h3
      have hy : ¬ Lib.compareBytes y.key fl < 0 := fun q => by
        have : LTE y (fromE fl) := lte_iff.2 (.inl q)
        unfold LTE at this
        rw [h3] at this
        cases this
      have hxx : ¬ Lib.compareBytes x.key fl < 0 := by
        rcases List.mem_cons.1 hx with rfl | hx
        · exact hy
        · intro q
          have h4 := (List.pairwise_cons.1 hs2).1 x hx
          rw [lte_iff] at h4
          rcases h4 with h4 | ⟨h4, _⟩
          · exact hy (cb_trans h4 q)
          · rw [h4] at hy; exact hy q
      rw [cb_less, decide_eq_false hxx]
  unfold rngL
  conv => rhs; rw [e0]
  rw [List.filter_append, List.filter_eq_nil_iff.2 (fun x hx => by rw [hA x hx]; simp), List.nil_append]
  have hc : (L.dropWhile (fun x => lessE x (fromE fl))).filter (inR fl tl) = (L.dropWhile (fun x => lessE x (fromE fl))).filter (inB tl) := by
    apply List.filter_congr
    intro x hx
    unfold inR inB
    rw [hB x hx, cb_less]
    rfl
  rw [hc, filter_take]
  have hs2 := hs.sublist (dw_sub (fun x => lessE x (fromE fl)) L)
  refine hs2.imp fun {x y} hxy hy => ?_
  unfold inB at hy ⊢
  simp only [Bool.or_eq_true, decide_eq_true_eq] at hy ⊢
  rcases hy with hy | hy
  · exact .inl hy
  · exact .inr (hkey x y hxy hy)
theorem rngF_any (F T : Slc) (b hr : Nat) (ns : List Nd) (n : Nat) (L : List Ent) (w0 w : World) (G : SP) (hL : fsts ns = L) (hf : Rd w F.1 F.2.2) (ht' : Rd w T.1 T.2.2) (h : Sat w0 (SkipT b hr ns * G) w) (ht : Tab ns n) (hn : n ≤ 1000) :
    Calls Try.prog 17 #[.pointer (some ⟨b, 0, none⟩), .slice F.1 F.2.2.length F.2.1, .slice T.1 T.2.2.length T.2.1] w (AllE w (rngL F.2.2 T.2.2 L)) := by
  refine (range_any F.1 F.2.1 F.2.2 T.1 T.2.1 T.2.2 b hr ns w hf ht' (h.view ht.ok) ht.ok (ht.small hn)).mono ?_
  intro x w' hx
  rw [rng_told ht, hL] at hx
  refine hx.all ?_
  have h1 := ht.len
  have h2 := fsts_len ns
  have h3 : (rngL F.2.2 T.2.2 L).length ≤ L.length := List.length_filter_le _ _
  have h4 : L.length = ns.length := by rw [← hL]; exact h2
  omega
end Go.Proofs.Ytlcifkkgekpicaa
