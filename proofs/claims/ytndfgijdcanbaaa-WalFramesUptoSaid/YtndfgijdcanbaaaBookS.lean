/- The statements' Book as a part of memory: its answers are held with it; Close lets go of all. -/
import Derived.Test.YtndfgijdcanbaaaBook4
import Derived.Test.YtndfgijdcanbaaaApp
namespace Go.Proofs.Ytndfgijdcanbaaa
open Go.RowKit
set_option linter.unusedVariables false

def OwnR : Rows_ → SP
  | [] => Emp
  | x :: ks => Row 5 1 (slOf x) x.2.2.length (x.2.2.map bv) * OwnR ks
theorem ownR_snoc (x : Option Addr × Nat × List UInt8) : ∀ ks : Rows_, OwnR (ks ++ [x]) = Row 5 1 (slOf x) x.2.2.length (x.2.2.map bv) * OwnR ks
  | [] => rfl
  | y :: ks => by
    show Row _ _ _ _ _ * OwnR (ks ++ [x]) = _
    rw [ownR_snoc x ks]
    show _ = Row _ _ _ _ _ * (Row _ _ _ _ _ * OwnR ks)
    ac_rfl
theorem row_block {e : TypeId} {size n : Nat} {v : Value} {xs : List Value} {h : Hp} (hr : Row e size v n xs h) {g : Nat} (hg : v.ownBlock = some g) : ∃ o, h g = some (false, o) := by
  rcases hr.2 with ⟨rfl, _⟩ | ⟨g', cap, cur, rfl, _, _, _, _, hp⟩
  · simp [Value.ownBlock] at hg
  · simp [Value.ownBlock] at hg
    subst hg
    unfold Pt Ow at hp
    exact ⟨.cells cur e (0, 0), by rw [hp]; unfold one1; simp⟩
theorem ownR_block : ∀ {ks : Rows_} {h : Hp}, OwnR ks h → ∀ x ∈ ks, ∀ g, (slOf x).ownBlock = some g → ∃ o, h g = some (false, o)
  | [], _, _, x, hx, _, _ => by simp at hx
  | y :: ks, h, hh, x, hx, g, hg => by
    obtain ⟨a, b, h1, rfl, h3, h4⟩ := hh
    rcases List.mem_cons.1 hx with rfl | hx
    · obtain ⟨o, ho⟩ := row_block h3 hg
      exact ⟨o, by unfold Hp.un; rw [ho]; rfl⟩
    · obtain ⟨o, ho⟩ := ownR_block h4 x hx g hg
      refine ⟨o, ?_⟩
      unfold Hp.un
      rcases h1 g with q | q | ⟨o', q, q'⟩
      · rw [q]; exact ho
      · rw [ho] at q; cases q
      · rw [ho] at q'; injection q' with q'; injection q' with q' _; cases q'
section
variable {w0 w w' : World} {F : SP} {ks : Rows_}
theorem ownR_ownL : ∀ {ks : Rows_} {F : SP}, Sat w0 (OwnR ks * F) w → OwnL w0.heap.size w ks
  | [], _, _ => OwnL.nil _ _
  | x :: ks, F, h => by
    have h1 : Sat w0 (Row 5 1 (slOf x) x.2.2.length (x.2.2.map bv) * (OwnR ks * F)) w := h.of (star_assoc _ _ _)
    have ih := ownR_ownL h1.right
    refine ⟨fun y hy => ?_, List.pairwise_cons.2 ⟨fun y hy g hg hg' => ?_, ih.apart⟩⟩
    · rcases List.mem_cons.1 hy with rfl | hy
      · exact h1.row_own
      · exact ih.own y hy
    · obtain ⟨c, z, z1, a, f, z2, rfl, z4, b, f', z5, rfl, z6, z7⟩ := h1
      obtain ⟨o, ho⟩ := row_block z4 hg
      obtain ⟨o', ho'⟩ := ownR_block z6 y hy g hg'
      have e : (b.un f') g = some (false, o') := by unfold Hp.un; rw [ho']; rfl
      rcases z2 g with q | q | ⟨o'', q, q'⟩
      · rw [ho] at q; cases q
      · rw [e] at q; cases q
      · rw [ho] at q; injection q with q; injection q with q _; cases q
/-- What the answers' own blocks turn into is let go. -/
theorem ownR_lose (h : Sat w0 (OwnR ks * F) w) (k : Chg (EntB ks) w w') : Sat w0 F w' := by
  have hown := ownR_ownL h
  obtain ⟨c, z, z1, a, f, z2, rfl, z4, z5⟩ := h
  refine ⟨c.own k (fun i hi => ?_), f, fun q y hy => ?_, z5⟩
  · obtain ⟨x, hx, hg⟩ := hi
    exact ((hown.own x hx).lt i hg).1
  · have hz : (a.un f) q = some y := by
      unfold Hp.un
      rcases z2 q with e | e | ⟨o, e, e'⟩
      · rw [e]; exact hy
      · rw [hy] at e; cases e
      · rw [e]; rw [hy] at e'; injection e' with e'; subst e'; rfl
    have h1 := z1 q y hz
    refine ⟨?_, h1.2⟩
    rw [k.block q (lt_of_block h1.1) (fun hq => ?_)]
    · exact h1.1
    · obtain ⟨x, hx, hg⟩ := hq
      obtain ⟨o, ho⟩ := ownR_block z4 x hx q hg
      rcases z2 q with e | e | ⟨o', e, e'⟩
      · rw [ho] at e; cases e
      · rw [hy] at e; cases e
      · rw [ho] at e; injection e with e; injection e with e _; cases e
end
/-- The Book: its block, its two lists, the answers and their twins. -/
def BookC (k : Nat) (vb vs : Value) (es ss : Rows_) : SP :=
  Pt k 36 #[vb, vs, .slice none 0 0, .slice none 0 0, .slice none 0 0, .slice none 0 0] * (Row 24 1 vb es.length (es.map slOf) * (Row 24 1 vs ss.length (ss.map slOf) * (OwnR es * OwnR ss)))
def BookP (k : Nat) (es : Rows_) : SP := fun h => ∃ vb vs ss, txt ss = txt es ∧ BookC k vb vs es ss h
section
variable {w0 w : World} {F : SP} {k : Nat} {es : Rows_}
theorem Sat.bookP (h : Sat w0 (BookP k es * F) w) : ∃ vb vs ss, txt ss = txt es ∧ Sat w0 (BookC k vb vs es ss * F) w := by
  obtain ⟨c, x, h1, a, f, h2, h3, ⟨vb, vs, ss, ht, h4⟩, h5⟩ := h
  exact ⟨vb, vs, ss, ht, c, x, h1, a, f, h2, h3, h4, h5⟩
theorem Sat.bookI {vb vs : Value} {ss : Rows_} (ht : txt ss = txt es) (h : Sat w0 (BookC k vb vs es ss * F) w) : Sat w0 (BookP k es * F) w := h.mono fun y ⟨a, f, h2, h3, h5, h6⟩ => ⟨a, f, h2, h3, ⟨vb, vs, ss, ht, h5⟩, h6⟩
theorem book_d (k : Nat) (vb vs : Value) (es ss : Rows_) (F : SP) : BookC k vb vs es ss * F = Pt k 36 #[vb, vs, .slice none 0 0, .slice none 0 0, .slice none 0 0, .slice none 0 0] * (Row 24 1 vb es.length (es.map slOf) * (Row 24 1 vs ss.length (ss.map slOf) * (OwnR es * (OwnR ss * F)))) := by
  unfold BookC; ac_rfl
end
theorem row_apart {w0 w : World} {F : SP} {e e' : TypeId} {s s' n n' : Nat} {v v' : Value} {xs xs' : List Value} (h : Sat w0 (Row e s v n xs * (Row e' s' v' n' xs' * F)) w) : ∀ g, v.ownBlock = some g → v'.ownBlock ≠ some g := fun g hg hg' => by
  obtain ⟨c, z, z1, a, f, z2, rfl, z4, b, f', z5, rfl, z6, z7⟩ := h
  obtain ⟨o, ho⟩ := row_block z4 hg
  obtain ⟨o', ho'⟩ := row_block z6 hg'
  have e1 : (b.un f') g = some (false, o') := by unfold Hp.un; rw [ho']; rfl
  rcases z2 g with q | q | ⟨o'', q, q'⟩
  · rw [ho] at q; cases q
  · rw [e1] at q; cases q
  · rw [ho] at q; injection q with q; injection q with q _; cases q
theorem bookS_close (k : Nat) (es : Rows_) (w0 w : World) (F : SP) (h : Sat w0 (BookP k es * F) w) (hn : es.length ≤ 400) (hl : ∀ x ∈ es, x.2.2.length ≤ 140737488355000) :
    Calls Try.prog 19 #[.pointer (some ⟨k, 0, none⟩)] w fun e w' => e = .returned (.bool true) ∧ Sat w0 F w' := by
  obtain ⟨vb, vs, ss, ht, h1⟩ := h.bookP
  have h2 := h1.of (book_d ..)
  have hb := Sat.base (h := h2)
  have hbk : Bk w0.heap.size w0.heap.size w k es := ⟨⟨Nat.le_refl _, hb⟩, ⟨vb, vs, ss, ⟨h2.at⟩, h2.up2.row_own, ⟨h2.up3.row_own, ownR_ownL h2.up5⟩, ht, row_apart (h2.right)⟩, ownR_ownL h2.up4⟩
  refine (book_close w0.heap.size w0.heap.size k es w hbk hn hl).mono ?_
  rintro e w' ⟨rfl, kk⟩
  refine ⟨rfl, ?_⟩
  have h3 := ownR_lose h2.up4 kk
  exact h3.right.right.right.right
end Go.Proofs.Ytndfgijdcanbaaa
