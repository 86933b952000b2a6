/- Joined, as they were built one by one: RgnI. -/
import Derived.RangeFuncCalls
import Derived.OrdersIn
import Derived.Test.YtmbaiglpgaoogaaGreatW01
set_option linter.unusedVariables false
set_option maxRecDepth 100000
namespace Go.Proofs.YtmbaiglpgaoogaaGreat
open Go.RowKit Z
section
variable {P:Program} {ops:Array Oper} {Q:Exit->Act->World->Prop} {md:Region.Mode} {l n:Nat}
theorem xV {o:Oper} {a:Act} {K:Act->World->Prop} {r:Result Next} (h:o.upon P a K Q r):o.uponIn (Fence.wide.inRound l) n P a K Q r:=by
 match r,h with
 | .ok (.value v) w',h=>exact h
 | .ok .skip w',h=>exact h
 | .ok (.defer d) w',h=>exact h
 | .ok (.enter f args) w',h=>exact⟨fun q=>(by simp[Fence.wide] at q),CallsIn.inRound l (callsIn_wide.2 h)⟩
 | .ok (.row row args) w',h=>
  refine⟨fun q=>(by simp[Fence.wide] at q),fun c cs _=>?_⟩;obtain⟨v,w2,r,s⟩:=h c cs;exact⟨v,w2,r,stepsIn_wide.2 s⟩
 | .halt (.panic v) w',h=>exact h
theorem Fz {o:Oper} (hd: ∀ c,o.op≠ .defer c) {a:Act} {w:World} {K:Act->World->Prop} (h:o.wp P a w K Q):o.wpIn (Fence.wide.inRound l) n P a w K Q:=by
 unfold Oper.wpIn;refine⟨fun _ _=>trivial,?_⟩;rw[Oper.semAt_eq _ _ _ hd];exact xV h
theorem lf (hd: ∀ (j:Nat) o,ops[j]?=some o-> ∀ c,o.op≠ .defer c) (hQ:¬ LetsOut Q): ∀ (fuel:Nat) (listed:Array Bool) (a:Act) (w:World),wpAny P md ops Q fuel listed a w->wpAnyIn (Fence.wide.inRound l) n P md ops Q fuel listed a w
 | 0,_,_,_,h=>h
 | fuel+1,listed,a,w,h=>⟨h.1,fun i hi=>by
  have h2:=h.2 i hi;unfold wpOp at h2;unfold wpOpIn
  cases ho:ops[i]? with
  | none=>
   rw[ho] at h2;exact lf hd hQ fuel _ a w h2
  | some o=>
   rw[ho] at h2;simp only at h2 ⊢;split
   .rename_i hw;rw[if_pos hw] at h2;rcases h2 with h2 | ⟨_,h2⟩
    .exact Fz (hd i o ho) (Oper.wp_mono (fun a' w' h'=>lf hd hQ fuel _ a' w' h') h2)
    .exact absurd h2 hQ
   .rename_i hw;rw[if_neg hw] at h2;exact⟨fun _ _=>trivial,lf hd hQ fuel _ _ w h2⟩⟩
end
def AV (l:List Oper):Bool:=l.all fun o=>match o.op with | .defer _=>false | _=>true
theorem tC {l:List Oper} (h:AV l=true): ∀ (j:Nat) o,l.toArray[j]?=some o-> ∀ c,o.op≠ .defer c:=fun j o ho c e=>by
 have h1:=List.all_eq_true.1 h o (List.mem_of_getElem? (by simpa using ho));rw[e] at h1
 cases h1
theorem rj {P:Program} {l:List Oper} {Q:Exit->Act->World->Prop} {S:World->Prop} {id n r z:Nat} {a:Act} {w:World} (hm:P.follows .mixedOrders=true) (hd:AV l=true) (hQ:¬ LetsOut Q) (hS:S w.drew)
 (h:S w.drew->ie P .any l.toArray Q S z l.toArray.size (Array.replicate l.toArray.size false) a w.drew):(Code.region id l.toArray true).wpIn (Fence.wide.inRound r) n P Q a w:=
 wpIn_region_any hm (lf (tC hd) hQ _ _ _ _ (ie.any _ _ _ _ (h hS)))
end Go.Proofs.YtmbaiglpgaoogaaGreat
