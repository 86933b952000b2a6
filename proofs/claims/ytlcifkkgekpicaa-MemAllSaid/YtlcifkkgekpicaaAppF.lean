/- An append onto a row of one's own: what is elder than the row is as it was. Nothing here is of the program. -/
import Derived.Test.YtlcifkkgekpicaaApp
namespace Go.Proofs.Ytlcifkkgekpicaa
open Go.RowKit
set_option linter.unusedVariables false

/-- What this row lies in is newer than that world. -/
def Fresh (wb : World) (v : Value) : Prop := ∀ b, v.ownBlock = some b → wb.heap.size ≤ b
theorem fresh_nil (wb : World) : Fresh wb (.slice none 0 0) := fun b h => by simp [Value.ownBlock] at h
section
variable {P : Program} {w0 w wb : World} {F : SP} {ops : Array Oper} {o : Oper} {a : Act}
theorem run_appF (t ty e : TypeId) (i : TypeInfo) (z : Value) (size bytes : Nat) (ht : P.underlying t = some (.slice e)) (hi : P.info? e = some i) (hz : i.zero = some z)
    (hsize : i.size = size) (hby : i.bytes = bytes) (hzs : z.cells.size = size) (hsz : 0 < size)
    (v : Value) (n : Nat) (xs : List Value) (hS : Sat w0 (Row e size v n xs * F) w) (hb : Chg No wb w) (hf : Fresh wb v)
    (A : Option Addr) (m c : Nat) (news : List Value) (hr : RdV w A news) (hm : news.length = m * size) (h1 : ∀ u ∈ news, u.oneCell' = true)
    (h63 : n + m ≤ maxLen) (hbytes : (n + m) * bytes ≤ 140737488355328) :
    ∃ A' c' w', (Builtin.append_ #[t, t] ty #[v, .slice A m c]).run P w = .ok (.slice A' (n + m) c') w' ∧ Sat w0 (Row e size (.slice A' (n + m) c') (n + m) (xs ++ news) * F) w' ∧ Chg No wb w' ∧ Fresh wb (.slice A' (n + m) c') := by
  obtain ⟨v', w', hrun, h2⟩ := run_app (P := P) w0.heap.size t ty e i z size bytes ht hi hz hsize hby hzs hsz v n xs hS.row_own A m c news hr hm h1 h63 hbytes hS.size
  have h3 := hS.appd h2
  obtain ⟨A', c', rfl, _⟩ := h3.row_sl
  refine ⟨A', c', w', hrun, h3, hb.own h2.chg (fun i hi => hf i hi.symm), fun b hbb => ?_⟩
  rcases h2.at_ with q | q
  · exact hf b (by rw [← q]; exact hbb)
  · rw [hbb] at q
    injection q with q
    have := hb.size
    omega
theorem step_appF {K : Act → World → Prop} {Q : Exit → Act → World → Prop} {E : Prop} (hgd : o.guard = none) (s x : Operand) (t : TypeId)
    (ho : o.op = .call { callee := .builtin .append, args := #[s, x], argTypes := #[t, t] })
    (e : TypeId) (i : TypeInfo) (z : Value) (size bytes : Nat) (ht : P.underlying t = some (.slice e)) (hi : P.info? e = some i) (hz : i.zero = some z)
    (hsize : i.size = size) (hby : i.bytes = bytes) (hzs : z.cells.size = size) (hsz : 0 < size)
    (v : Value) (n : Nat) (xs : List Value) (hs : a.eval s = v) (w0 : World) (F : SP) (hS : Sat w0 (Row e size v n xs * F) w) (wb : World) (hb : Chg No wb w) (hf : Fresh wb v)
    (A : Option Addr) (m c : Nat) (news : List Value) (hx : a.eval x = .slice A m c) (hr : RdV w A news) (hm : news.length = m * size) (h1 : ∀ u ∈ news, u.oneCell' = true)
    (h63 : n + m ≤ maxLen) (hbytes : (n + m) * bytes ≤ 140737488355328)
    (h : ∀ A' c' w', Sat w0 (Row e size (.slice A' (n + m) c') (n + m) (xs ++ news) * F) w' → Chg No wb w' → Fresh wb (.slice A' (n + m) c') → K (a.put o.dst (.slice A' (n + m) c')) w') :
    if Region.wanted o (yielded ops a.tmps) = true then Oper.wp P o a w K Q else E := by
  have hw : Region.wanted o (yielded ops a.tmps) = true := by simp [Region.wanted, hgd]
  rw [if_pos hw]
  obtain ⟨A', c', w', hrun, h2, h3, h4⟩ := run_appF (P := P) t o.type e i z size bytes ht hi hz hsize hby hzs hsz v n xs hS hb hf A m c news hr hm h1 h63 hbytes
  unfold Oper.wp execOp
  simp only [ho, resolve, invoke, builtin, Sem.run_bind, Sem.run_pure, Result.andThen_ok, List.map_toArray, List.map_cons, List.map_nil, hs, hx, hrun]
  exact h _ _ _ h2 h3 h4
end
end Go.Proofs.Ytlcifkkgekpicaa
