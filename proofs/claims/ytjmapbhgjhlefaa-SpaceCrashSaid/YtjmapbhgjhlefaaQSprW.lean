/- SpaceCrash: what holds behind a step's calls. -/
import Derived.Deep.CutBlock
import Derived.Test.YtjmapbhgjhlefaaQ14
import Derived.Test.YtjmapbhgjhlefaaQSprO
namespace Go.Proofs.Ytjmapbhgjhlefaa
open Go.RowKit
set_option linter.unusedVariables false
set_option maxRecDepth 100000

section
variable {w0 w : World} {F G : SP} {t r N : Nat} {v v2 : Value} {fs ts : List Rf}
theorem unsafe_self (h : Sat w0 (RSp r N v fs * G) w) (hl : fs.length ≤ 24) (hfv : ∀ f ∈ fs, FvOk f) :
    Calls Try.prog 45 #[.pointer (some ⟨r, 0, none⟩), .pointer (some ⟨r, 0, none⟩)] w fun e w' => ∃ u, e = .returned (.pointer (some ⟨u, 0, none⟩)) ∧ Sat w0 (RSp r N v fs * G) w' := by
  obtain ⟨Av, cv, rfl, _⟩ := Sat.row_sl (h := (h.of rsp_d).up2)
  refine (unsafe_any Av cv h (by omega) (by omega) (fun W hW => hW.spRd) hfv).mono ?_
  rintro e w' ⟨u, v2, rfl, hs⟩
  exact ⟨u, rfl, hs.right⟩
theorem unsafe_two (h : Sat w0 (RSp t N v2 ts * (RSp r N v fs * G)) w) (hl : fs.length ≤ 24) (htl : ts.length ≤ 1000) (hfv : ∀ f ∈ ts, FvOk f) :
    Calls Try.prog 45 #[.pointer (some ⟨t, 0, none⟩), .pointer (some ⟨r, 0, none⟩)] w fun e w' => ∃ u v3, e = .returned (.pointer (some ⟨u, 0, none⟩)) ∧ Sat w0 (RSp u N v3 (ts.map (unsR fs)) * (RSp t N v2 ts * (RSp r N v fs * G))) w' := by
  obtain ⟨Av, cv, rfl, _⟩ := Sat.row_sl (h := (h.of rsp_d).up2)
  refine (unsafe_any (G := RSp t N (.slice Av ts.length cv) ts * G) Av cv (h.of (by ac_rfl)) (by omega) htl (fun W hW => (hW.of (show _ = RSp t N (.slice Av ts.length cv) ts * (RSp r N v fs * G) by ac_rfl)).spRd) hfv).mono ?_
  rintro e w' ⟨u, v3, rfl, hs⟩
  exact ⟨u, v3, rfl, hs.of (by ac_rfl)⟩
end
/-- Behind the calls of a step: power is on, or it went off with the last write. -/
inductive CutC (w : World) (F : SP) (N c d s r o : Nat) (S : Spc) (D : Dk) (v : Value) (fs : List Rf) (e f : Int) (wx : World) : Prop where
  | on (he : e = f) (h : CrIn N c D S fs) (hs : Sat w (SpaceP s d S * (Disk d D * (RSp r N v fs * (FrP fs * F)))) wx)
  | off (he : e = 21) (ho : D.off = true) (hl : D.cells.length = N) (hc : Cnt D c) (hr : o = r) (hf : fs.length ≤ 24) (hz : ∀ f ∈ fs, f.fr.length ≤ 65536) (h : CrOff c D fs fs) (hs : Sat w (Disk d D * (RSp r N v fs * (FrP fs * F))) wx)
  | two (vu : Value) (us : List Rf) (he : e = 21) (ho : D.off = true) (hl : D.cells.length = N) (hc : Cnt D c) (hf : fs.length ≤ 24) (hu : us.length ≤ 1000) (hz : ∀ f ∈ fs, f.fr.length ≤ 65536) (hzu : ∀ f ∈ us, f.fr.length ≤ 65536) (hfr : ∀ W, (∀ f ∈ fs, FrOk W f) → ∀ f ∈ us, FrOk W f) (h : CrOff c D fs us) (hs : Sat w (Disk d D * (RSp r N v fs * (RSp o N vu us * (FrP fs * F)))) wx)
section
variable {w wx : World} {F : SP} {N c d s r o : Nat} {S : Spc} {D : Dk} {v : Value} {fs : List Rf} {e f : Int}
/-- The space anew, behind power that went off. -/
def Anew (w : World) (F : SP) (N c d : Nat) (e : Ending) (w' : World) : Prop := ∃ (s t : Nat) (T : Spc) (E : Dk) (v2 : Value) (ts : List Rf), e = .returned (.tuple #[.pointer (some ⟨s, 0, none⟩), .pointer (some ⟨t, 0, none⟩)]) ∧ CrIn N c E T ts ∧ Sat w (SpaceP s d T * (Disk d E * (RSp t N v2 ts * (FrP ts * F)))) w'
theorem Sat.dropF {A1 A2 A3 A4 A5 G : SP} {w0 w : World} (h : Sat w0 (A1 * (A2 * (A3 * (A4 * (A5 * G))))) w) : Sat w0 (A1 * (A2 * (A3 * (A4 * G)))) w := Sat.right (A := A5) (h.of (by ac_rfl))
theorem anew_of {T : Spc} {E : Dk} {ts : List Rf} (hg : ∃ lim, lim ≤ c ∧ Good E T (lenAt T.files) lim) (hm : Mat T ts) (hs : ∀ f ∈ ts, f.safe = f.fr.length) (hn : E.cells.length = N) (hc : Cnt E c) (ha : E.armed = 0) : CrIn N c E T ts := by
  obtain ⟨lim, h1, h2⟩ := hg
  exact CrIn.found h2 h1 hm hs hn hc ha
theorem anew_one (yq yn yk yt yc : Int) (aA dA bA kA : Option Addr) (ac dc bc kc : Nat) (al : List Fi) (dl : List Int) (bl : List UInt8) (kl : List Bool) (hN : 2 ≤ N ∧ N ≤ 65536) (hc1 : c ≤ 1000000000) (hl : D.cells.length = N) (hc : Cnt D c) (hk : RdV w kA (kl.map Value.bool)) (hkl : kl.length ≤ 140737488351232) (hf : fs.length ≤ 24) (hz : ∀ f ∈ fs, f.fr.length ≤ 65536) (h : CrOff c D fs fs) (uv : Value) (hs : Sat w (Disk d D * (RSp r N v fs * (FrP fs * F))) wx) :
    Calls Try.prog 46 #[.pointer (some ⟨d, 0, none⟩), .pointer (some ⟨r, 0, none⟩), uv, .agg #[.int .i64 yq, .int .i64 yn, .int .i64 yk, .slice aA al.length ac, .slice dA dl.length dc, .slice bA bl.length bc, .slice kA kl.length kc, .int .i64 yt, .int .i64 yc]] wx (Anew w F N c d) := by
  obtain ⟨T, h1, h2, h3⟩ := h kl yt yc
  have h4 : Stand T fs := h3.elim id id
  obtain ⟨lim, h5, h6⟩ := h2
  have hp := hc.pend
  refine (opened_one yq yn yk yt yc aA dA bA kA ac dc bc kc al dl bl kl uv h4 h6 h1 hs ⟨hl, hN.1, hN.2⟩ (by omega) hk hkl (by omega) (fun W hW => hW.fr_rd) hz).mono ?_
  rintro e w' ⟨s, t, v2, ts, rfl, hm, hsf, hs⟩
  exact ⟨s, t, T, _, v2, ts, rfl, anew_of ⟨lim, h5, h6⟩ hm hsf (crash_len.trans hl) hc.crash crash_armed, hs.dropF⟩
theorem anew_two (yq yn yk yt yc : Int) (aA dA bA kA : Option Addr) (ac dc bc kc : Nat) (al : List Fi) (dl : List Int) (bl : List UInt8) (kl : List Bool) {vu : Value} {us : List Rf} (hN : 2 ≤ N ∧ N ≤ 65536) (hc1 : c ≤ 1000000000) (hl : D.cells.length = N) (hc : Cnt D c) (hk : RdV w kA (kl.map Value.bool)) (hkl : kl.length ≤ 140737488351232) (hf : fs.length ≤ 24) (hu : us.length ≤ 1000) (hz : ∀ f ∈ fs, f.fr.length ≤ 65536) (hzu : ∀ f ∈ us, f.fr.length ≤ 65536) (hfr : ∀ W, (∀ f ∈ fs, FrOk W f) → ∀ f ∈ us, FrOk W f) (h : CrOff c D fs us) (hs : Sat w (Disk d D * (RSp r N v fs * (RSp o N vu us * (FrP fs * F)))) wx) :
    Calls Try.prog 46 #[.pointer (some ⟨d, 0, none⟩), .pointer (some ⟨r, 0, none⟩), .pointer (some ⟨o, 0, none⟩), .agg #[.int .i64 yq, .int .i64 yn, .int .i64 yk, .slice aA al.length ac, .slice dA dl.length dc, .slice bA bl.length bc, .slice kA kl.length kc, .int .i64 yt, .int .i64 yc]] wx (Anew w F N c d) := by
  obtain ⟨T, h1, h2, h3⟩ := h kl yt yc
  obtain ⟨lim, h5, h6⟩ := h2
  have hp := hc.pend
  by_cases h4 : Stand T fs
  · refine (opened_one (G := RSp o N vu us * (FrP fs * F)) yq yn yk yt yc aA dA bA kA ac dc bc kc al dl bl kl _ h4 h6 h1 hs ⟨hl, hN.1, hN.2⟩ (by omega) hk hkl (by omega) (fun W hW => hW.up2.fr_rd) hz).mono ?_
    rintro e w' ⟨s, t, v2, ts, rfl, hm, hsf, hs⟩
    exact ⟨s, t, T, _, v2, ts, rfl, anew_of ⟨lim, h5, h6⟩ hm hsf (crash_len.trans hl) hc.crash crash_armed, (hs.of (show _ = SpaceP s d T * (Disk d (D.crash kl yt yc) * (RSp t N v2 ts * (FrP ts * (FrP fs * (RSp o N vu us * F))))) by ac_rfl)).dropF.dropF⟩
  · refine (opened_two (G := FrP fs * F) yq yn yk yt yc aA dA bA kA ac dc bc kc al dl bl kl h4 (h3.resolve_left h4) (by omega) (fun W hW => hfr W hW.fr_rd) hzu h6 h1 hs ⟨hl, hN.1, hN.2⟩ (by omega) hk hkl (by omega) (fun W hW => hW.fr_rd) hz).mono ?_
    rintro e w' ⟨s, t, v2, ts, rfl, hm, hsf, hs⟩
    exact ⟨s, t, T, _, v2, ts, rfl, anew_of ⟨lim, h5, h6⟩ hm hsf (crash_len.trans hl) hc.crash crash_armed, hs.dropF⟩
end
end Go.Proofs.Ytjmapbhgjhlefaa
