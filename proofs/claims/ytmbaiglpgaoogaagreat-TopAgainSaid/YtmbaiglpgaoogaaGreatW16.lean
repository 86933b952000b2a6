/- Joined, as they were built one by one: Open2 Open. -/
import Derived.OpenShut
import Derived.ProofKit
import Derived.SizedLaws
import Derived.Deep.Slices
import Derived.Test.YtmbaiglpgaoogaaGreatW01
set_option linter.unusedVariables false
set_option maxRecDepth 100000
namespace Go.Proofs.YtmbaiglpgaoogaaGreat
open Go.RowKit Go.ChangeShapes Go.WideShapes Go.Deep Z
theorem Iu {α:Type} {k:Nat} {f:α->List Value} (hf: ∀ x,(f x).length=k): ∀ (l:List α) (i j:Nat) (hi:i<l.length) (hj:j<k),(l.flatMap f)[i*k+j]?=(f l[i])[j]?
 | [],i,j,hi,hj=>by simp at hi
 | x::l,0,j,hi,hj=>by
  rw[List.flatMap_cons,Nat.zero_mul,Nat.zero_add,List.getElem?_append_left (by rw[hf];exact hj)];rfl
 | x::l,i+1,j,hi,hj=>by
  have e:(i+1)*k+j - k=i*k+j:=by rw[Nat.add_mul];omega
  rw[List.flatMap_cons,List.getElem?_append_right (by rw[hf,Nat.add_mul];omega),hf,e];have:=Iu hf l i j (by simpa using hi) hj;rw[this];rfl
theorem sr {α:Type} {k:Nat} {f:α->List Value} (hf: ∀ x,(f x).length=k): ∀ (l:List α),(l.flatMap f).length=l.length*k
 | []=>by simp
 | x::l=>by rw[List.flatMap_cons,List.length_append,hf,sr hf l,List.length_cons,Nat.add_mul];omega
theorem aF.elem {α:Type} {k:Nat} {f:α->List Value} (hf: ∀ x,(f x).length=k) (hk:0<k) {w:World} {A:Option Addr} {l:List α} (h:aF w A (l.flatMap f)) {i:Nat} (hi:i<l.length):
 ∃ b o,A=some ⟨b,o,none⟩/\ ∀ r,r<k->w.cell? ⟨b,o+(i*k+r),none⟩=(f l[i])[r]?:=by
 have hl:=sr hf l;have hlt: ∀ r,r<k->i*k+r<(l.flatMap f).length:=fun r hr=>by
  rw[hl];have:=Nat.mul_le_mul_right k (show i+1<=l.length from hi);rw[Nat.add_mul] at this;omega
 obtain⟨b,o,e,hc⟩:=h (by intro e;have:=hlt 0 hk;rw[e] at this;simp at this);refine⟨b,o,e,fun r hr=>?_⟩;rw[hc _ (hlt r hr), <-Iu hf l i r hi hr,List.getElem?_eq_getElem]
section
variable {H:Type} {enc:TypeId × Value->H} {P:Program} {w:World} {base:Nat} {spare:Nat->Bool} {held:Bool}
def v2 (x:Int × Int):List Value:=[.int .i64 x.1,.int .i64 x.2]
def v3 (x:Int × Int × Int):List Value:=[.int .i64 x.1,.int .i64 x.2.1,.int .i64 x.2.2]
def v4 (x:Int × Int × Int × Int):List Value:=[.int .i64 x.1,.int .i64 x.2.1,.int .i64 x.2.2.1,.int .i64 x.2.2.2]
end
end Go.Proofs.YtmbaiglpgaoogaaGreat
namespace Go.Proofs.YtmbaiglpgaoogaaGreat
open Go.ChangeShapes Go.WideShapes Go.ChangeAt Go.RowKit Go.Deep Z
def ql {H:Type} (P:Program) (t:TypeId) (d:DataW H):Prop:= ∀ n ∈ d.weights P t,n<=reachBytes
theorem sN:reachBytes=140737488351232:=by decide
section
variable {H:Type} {P:Program}
theorem DN {ts:List TypeId} {ds:List (DataW H)} (h:(DataW.weightsEach P ts ds).all (· <=reachBytes)=true) {j:Nat} {t:TypeId} {d:DataW H} (ht:ts[j]?=some t) (hd:ds[j]?=some d):ql P t d:=fun n hn=>by
 simpa using List.all_eq_true.1 h n (DataW.weights_mem_each ht hd n hn)
theorem ql.len {t e:TypeId} {elems spare:List (DataW H)} (h:ql P t (.slice elems spare)) (hu:P.underlying t=some (.slice e)):(elems.length+spare.length)*P.bytesOf e<=reachBytes:=
 h _ (by simp[DataW.weights,hu])
variable {enc:TypeId × Value->H} {w:World} {base:Nat} {spare:Nat->Bool} {held:Bool}
theorem qQ {a:Addr} {xs:List Value} (h: ∀ j (hj:j<xs.length),w.cell? (a.add j)=some xs[j]):aF w (some a) xs:=fun hx=>by
 obtain⟨b,o,s⟩:=a;have h0:=h 0 (List.length_pos_iff.2 hx);rw[Addr.add_zero'] at h0;have hs:=World.cell?_spot h0;simp at hs;subst hs;exact⟨b,o,rfl,fun j hj=>by rw[<-h j hj,Addr.add_lit]⟩
theorem Jo {t e:TypeId} {fuel:Nat} {cs:List Value} {x:DataW H × List MemPlace} (ht:P.underlying t=some (.slice e)) (he:P.underlying e=some (.int .u8)) (hc:P.cellsOf e=1) (hb:P.bytesOf e=1)
 (h:DataW.trod enc P w base spare held fuel t cs=some x) (hz:ql P t x.1):
 ∃ A c l,cs=[.slice A l.length c]/\l.length<=c/\c<=maxLen/\Rd w A l/\l.length<=140737488351232/\(A=none->c=0):=by
 rcases open_ints ht he hc h with ⟨rfl,_⟩ | ⟨a,len,cap,zs,rfl,_,hl,hm,hzl,hx,hcell,hwf⟩
 .exact⟨none,0,[],rfl,Nat.le_refl _,Nat.zero_le _,Rd.nil _ _,by simp,fun _=>rfl⟩
 .have hlz:len<=zs.length:=by rw[hzl];split<;>omega
  subst hx;have hsz:=ql.len hz ht;simp only[lits,List.length_map,List.length_take,List.length_drop,hb,sN] at hsz;refine⟨some a,cap,(zs.take len).map fun n=>UInt8.ofNat n.toNat,by simp[Nat.min_eq_left hlz],by simp;omega,hm,qQ fun j hj=>?_,by simp;omega,fun e=>by cases e⟩;simp at hj;rw[hcell j (by omega)];have hb:=bounds_u8 (hwf (zs.getD j 0) (by rw[List.getD_eq_getElem?_getD,List.getElem?_eq_getElem (by omega)];exact List.getElem_mem _));simp only[List.getElem_map,List.getElem_take,bv];rw[List.getD_eq_getElem?_getD,List.getElem?_eq_getElem (by omega)] at hb ⊢;simp only[Option.getD_some] at hb ⊢;have:((UInt8.ofNat zs[j].toNat).toNat:Int)=zs[j]:=by
   rw[UInt8.toNat_ofNat',Nat.mod_eq_of_lt (by omega)];omega
  rw[this]
theorem yZ {t e:TypeId} {fuel:Nat} {cs:List Value} {x:DataW H × List MemPlace} (ht:P.underlying t=some (.slice e)) (he:P.underlying e=some (.int .i64)) (hc:P.cellsOf e=1) (hb:P.bytesOf e=8)
 (h:DataW.trod enc P w base spare held fuel t cs=some x) (hz:ql P t x.1):
 ∃ (A:Option Addr) (c:Nat) (l:List Int),cs=[.slice A l.length c]/\l.length<=c/\c<=maxLen/\aF w A (l.map fun n=> .int .i64 n)/\l.length<=17592186043904/\ ∀ n ∈ l, -9223372036854775808<=n/\n<=9223372036854775807:=by
 rcases open_ints ht he hc h with ⟨rfl,_⟩ | ⟨a,len,cap,zs,rfl,_,hl,hm,hzl,hx,hcell,hwf⟩
 .exact⟨none,0,[],rfl,Nat.le_refl _,Nat.zero_le _,aF.nil _ _,by simp,by simp⟩
 .have hlz:len<=zs.length:=by rw[hzl];split<;>omega
  subst hx;have hsz:=ql.len hz ht;simp only[lits,List.length_map,List.length_take,List.length_drop,hb,sN] at hsz;refine⟨some a,cap,zs.take len,by simp[Nat.min_eq_left hlz],by simp;omega,hm,qQ fun j hj=>?_,by simp;omega,fun n hn=>bounds_i64 (hwf n (List.mem_of_mem_take hn))⟩;simp at hj;rw[hcell j (by omega)];simp only[List.getElem_map,List.getElem_take];rw[List.getD_eq_getElem?_getD,List.getElem?_eq_getElem (by omega)];rfl
end
end Go.Proofs.YtmbaiglpgaoogaaGreat
