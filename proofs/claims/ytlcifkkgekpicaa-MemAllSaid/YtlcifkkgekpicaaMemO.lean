/- What the table tells, in memory that is held. -/
import Derived.Test.YtlcifkkgekpicaaRng
namespace Go.Proofs.Ytlcifkkgekpicaa
open Go.RowKit
set_option linter.unusedVariables false

theorem owned_ownE : ∀ es : List En, Owned (OwnE es)
  | [] => owned_emp
  | e :: es => owned_star (owned_row _ _ _ _ _) (owned_star (owned_row _ _ _ _ _) (owned_ownE es))
/-- A level, told in memory that is held. -/
theorem levO_any (i : Int) (b hr : Nat) (ns : List Nd) (n : Nat) (w0 w : World) (F : SP) (h : Sat w0 (SkipT b hr ns * F) w) (ht : Tab ns n) (hn : n ≤ 1000) :
    Calls Try.prog 30 #[.pointer (some ⟨b, 0, none⟩), .int .i64 i] w fun x w' => ∃ (es : List En) (A : Option Addr) (c : Nat), x = .returned (.slice A es.length c) ∧ es.map En.ent = levM i (absL ns) ∧ es.length ≤ c ∧ c ≤ maxLen ∧ Sat w0 (Row 24 4 (.slice A es.length c) es.length (es.flatMap enV) * (OwnE es * (SkipT b hr ns * F))) w' := by
  refine (level_any i b hr ns w (h.view ht.ok) ht.ok (ht.small hn)).mono ?_
  rintro x w' ⟨es, A, c, rfl, he, hs⟩
  rw [lev_abs ht.ok] at he
  have h1 := (h.join hs (owned_star (owned_row _ _ _ _ _) (owned_ownE es))).of (star_assoc _ _ _)
  obtain ⟨A', c', e1, h2, h3⟩ := h1.row_sl
  injection e1 with e1 _ e2
  subst e1; subst e2
  exact ⟨es, A, c, rfl, he, h2, h3, h1⟩
/-- All, told in memory that is held. -/
theorem allO_any (b hr : Nat) (ns : List Nd) (n : Nat) (w0 w : World) (F : SP) (h : Sat w0 (SkipT b hr ns * F) w) (ht : Tab ns n) (hn : n ≤ 1000) :
    Calls Try.prog 17 #[.pointer (some ⟨b, 0, none⟩), .slice none 0 0, .slice none 0 0] w fun x w' => ∃ (es : List En) (A : Option Addr) (c : Nat), x = .returned (.slice A es.length c) ∧ es.map En.ent = fsts ns ∧ es.length ≤ c ∧ c ≤ maxLen ∧ Sat w0 (Row 24 4 (.slice A es.length c) es.length (es.flatMap enV) * (OwnE es * (SkipT b hr ns * F))) w' := by
  refine (range_any none 0 [] none 0 [] b hr ns w (Rd.nil _ _) (Rd.nil _ _) (h.view ht.ok) ht.ok (ht.small hn)).mono ?_
  rintro x w' ⟨es, A, c, rfl, he, hs⟩
  rw [range_all ht] at he
  have h1 := (h.join hs (owned_star (owned_row _ _ _ _ _) (owned_ownE es))).of (star_assoc _ _ _)
  obtain ⟨A', c', e1, h2, h3⟩ := h1.row_sl
  injection e1 with e1 _ e2
  subst e1; subst e2
  exact ⟨es, A, c, rfl, he, h2, h3, h1⟩
theorem told_short {ns : List Nd} {n : Nat} {es : List En} (ht : Tab ns n) (h : es.map En.ent = fsts ns) : ∀ x ∈ es, x.key.2.2.length ≤ 1000000 ∧ x.value.2.2.length ≤ 1000000 := by
  intro x hx
  have h2 : x.ent ∈ fsts ns := by rw [← h]; exact List.mem_map.2 ⟨x, hx, rfl⟩
  unfold fsts absL at h2
  rw [List.map_map] at h2
  obtain ⟨m, hm, e⟩ := List.mem_map.1 h2
  have h3 := ht.each m hm
  have k1 : m.e.key.2.2 = x.key.2.2 := congrArg Ent.key e
  have k2 : m.e.value.2.2 = x.value.2.2 := congrArg Ent.value e
  rw [← k1, ← k2]
  omega
theorem ents_cell {w0 w : World} {F : SP} {fb fo n c : Nat} {es : List En} (h : Sat w0 (Row 24 4 (.slice (some ⟨fb, fo, none⟩) n c) n (es.flatMap enV) * F) w) (q : Nat) (hq : q < es.length) :
    w.cell? ⟨fb, fo + q * 4, none⟩ = some (.slice es[q].key.1 es[q].key.2.2.length es[q].key.2.1) ∧ w.cell? ⟨fb, fo + q * 4 + 1, none⟩ = some (.slice es[q].value.1 es[q].value.2.2.length es[q].value.2.1) := by
  obtain ⟨b, o, e, hc⟩ := ents_at (Sat.row_rdK (h := h)) (by omega)
  injection e with e
  injection e with e1 e2
  subst e1; subst e2
  exact ⟨(hc q hq).1, (hc q hq).2.1⟩
end Go.Proofs.Ytlcifkkgekpicaa
