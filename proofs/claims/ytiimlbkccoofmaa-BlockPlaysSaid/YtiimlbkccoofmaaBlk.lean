/- The disk of the layer 'block' in memory. -/
import Derived.Test.YtiimlbkccoofmaaMap
import Derived.Test.YtiimlbkccoofmaaClone
import Derived.Test.YtiimlbkccoofmaaRol
namespace Go.Proofs.Ytiimlbkccoofmaa
open Go.RowKit
set_option linter.unusedVariables false

/-- What a disk is. A block's bytes: none stands for noughts. -/
structure Dk where
  cells : List (List UInt8 × Bool)
  pend : List (Nat × List UInt8)
  armed : Nat
  writes : Nat
  off : Bool
def slv (s : Slc) : Value := .slice s.1 s.2.2.length s.2.1
def cellV (x : Slc × Bool) : List Value := [slv x.1, .bool x.2]
def pendV (x : Nat × Slc) : List Value := [.int .i64 x.1, slv x.2]
/-- The slice of the last write that is pending to a block. -/
def lastOf (ps : List (Nat × Slc)) : Int → Option Value := fun i => ((ps.reverse.find? fun x => ((x.1 : Nat) : Int) == i).map fun x => slv x.2)
def fit (s : Slc) : Prop := (s.1 = none → s.2.2 = [] ∧ s.2.1 = 0) ∧ (s.2.2 = [] → s.1 = none) ∧ s.2.2.length ≤ s.2.1 ∧ s.2.1 ≤ 9223372036854775807
structure Rep (D : Dk) (cs : List (Slc × Bool)) (ps : List (Nat × Slc)) : Prop where
  cells : D.cells = cs.map fun x => (x.1.2.2, x.2)
  pend : D.pend = ps.map fun x => (x.1, x.2.2.2)
  fitc : ∀ x ∈ cs, fit x.1 ∧ (x.1.2.2 = [] ∨ x.1.2.2.length = 512)
  fitp : ∀ x ∈ ps, fit x.2 ∧ x.2.2.2.length = 512 ∧ x.1 < cs.length
  two : 2 ≤ cs.length
  most : cs.length ≤ 65536
/-- A disk whose parts are told one by one. -/
def DiskC (d C cc M nm : Nat) (vp : Value) (cs : List (Slc × Bool)) (ps : List (Nat × Slc)) (armed writes : Nat) (off : Bool) : SP :=
  Pt d 68 #[.slice (some ⟨C, 0, none⟩) cs.length cc, vp, .map (some M), .int .i64 armed, .int .i64 writes, .bool off] *
  (Row 74 2 (.slice (some ⟨C, 0, none⟩) cs.length cc) cs.length (cs.flatMap cellV) *
  (Row 72 2 vp ps.length (ps.flatMap pendV) *
  (MapP Try.prog 3 M nm (lastOf ps) *
  RoL (cs.map (·.1) ++ ps.map (·.2)))))
def Disk (d : Nat) (D : Dk) : SP := fun h => ∃ C cc M nm vp cs ps, Rep D cs ps ∧ nm ≤ ps.length ∧ DiskC d C cc M nm vp cs ps D.armed D.writes D.off h
section
variable {w0 w : World} {F : SP} {d C cc M nm armed writes : Nat} {vp : Value} {cs : List (Slc × Bool)} {ps : List (Nat × Slc)} {off : Bool} {D : Dk}
theorem Sat.disk (h : Sat w0 (Disk d D * F) w) : ∃ C cc M nm vp cs ps, Rep D cs ps ∧ nm ≤ ps.length ∧ Sat w0 (DiskC d C cc M nm vp cs ps D.armed D.writes D.off * F) w := by
  obtain ⟨c, x, h1, a, g, h2, h3, ⟨C, cc, M, nm, vp, cs, ps, h4, h5, h6⟩, h8⟩ := h
  exact ⟨C, cc, M, nm, vp, cs, ps, h4, h5, ⟨c, x, h1, a, g, h2, h3, h6, h8⟩⟩
theorem Sat.diskI (h : Sat w0 (DiskC d C cc M nm vp cs ps D.armed D.writes D.off * F) w) (hr : Rep D cs ps) (hn : nm ≤ ps.length) : Sat w0 (Disk d D * F) w := by
  obtain ⟨c, x, h1, a, g, h2, h3, h6, h8⟩ := h
  exact ⟨c, x, h1, a, g, h2, h3, ⟨C, cc, M, nm, vp, cs, ps, hr, hn, h6⟩, h8⟩
/-- The disk's own block ahead. -/
theorem disk_d : DiskC d C cc M nm vp cs ps armed writes off * F = Pt d 68 #[.slice (some ⟨C, 0, none⟩) cs.length cc, vp, .map (some M), .int .i64 armed, .int .i64 writes, .bool off] *
  (Row 74 2 (.slice (some ⟨C, 0, none⟩) cs.length cc) cs.length (cs.flatMap cellV) * (Row 72 2 vp ps.length (ps.flatMap pendV) * (MapP Try.prog 3 M nm (lastOf ps) * (RoL (cs.map (·.1) ++ ps.map (·.2)) * F)))) := by
  unfold DiskC; ac_rfl
end
end Go.Proofs.Ytiimlbkccoofmaa
