/- Joined, as they were built one by one: WalCut. -/
import Derived.Test.YtmbaiglpgaoogaaGreatW02
import Derived.Test.YtmbaiglpgaoogaaGreatW11
import Derived.Test.YtmbaiglpgaoogaaGreatW12
import Derived.Test.YtmbaiglpgaoogaaGreatW16
import Derived.Test.YtmbaiglpgaoogaaGreatW25
namespace Go.Proofs.YtmbaiglpgaoogaaGreat
open Go.RowKit
set_option linter.unusedVariables false
set_option maxRecDepth 100000
def tS (F hs:List (List UInt8)):Prop:= ∀ fs, ∃ c,aH none (F++fs)=hs++aH c fs
theorem tS.nil:tS [] []:=fun fs=>⟨none,rfl⟩
theorem tS.whole {F hs:List (List UInt8)} (h:tS F hs):whole F=hs:=by
 obtain⟨c,hc⟩:=h [];rw[List.append_nil,qP,List.append_nil] at hc;exact hc
theorem tS.put {F hs:List (List UInt8)} {b:List UInt8} (h:tS F hs) (hb:b.length<=262144):tS (F++split b) (hs++[b]):=fun fs=>by
 obtain⟨c,hc⟩:=h (split b++fs);refine⟨none,?_⟩;rw[List.append_assoc,hc,ou b hb,List.append_assoc];rfl
theorem tS.part {F hs:List (List UInt8)} {b:List UInt8} {k:Nat} (h:tS F hs) (hb:b.length<=262144) (hk:k<ba b.length):tS (F++(split b).take k) hs:=fun fs=>by
 obtain⟨c,hc⟩:=h ((split b).take k++fs);obtain⟨c2,hc2⟩:=qR b hb k hk c fs;refine⟨c2,?_⟩;rw[List.append_assoc,hc,hc2]
def qJ (F hs:List (List UInt8)) (safe q:Nat):Prop:= ∀ n,q<=n->n<=F.length-> ∃ m,safe<=m/\m<=hs.length/\tS (F.take n) (hs.take m)
theorem qJ.all {F hs:List (List UInt8)} (h:tS F hs):qJ F hs hs.length F.length:=fun n h1 h2=>⟨hs.length,Nat.le_refl _,Nat.le_refl _,by
 rw[List.take_of_length_le h1,List.take_length];exact h⟩
theorem qJ.put {F hs:List (List UInt8)} {b:List UInt8} {safe q:Nat} (h:qJ F hs safe q) (ht:tS F hs) (hs2:safe<=hs.length) (hb:b.length<=262144):qJ (F++split b) (hs++[b]) safe q:=fun n h1 h2=>by
 by_cases hn:n<=F.length
 .obtain⟨m,m1,m2,m3⟩:=h n h1 hn;refine⟨m,m1,by rw[List.length_append];omega,?_⟩;rw[List.take_append_of_le_length hn,List.take_append_of_le_length m2];exact m3
 .rw[List.length_append,iK] at h2;by_cases hk:n - F.length<ba b.length
  .refine⟨hs.length,hs2,by rw[List.length_append];omega,?_⟩;rw[List.take_append_of_le_length (Nat.le_refl _),List.take_length,List.take_append,List.take_of_length_le (by omega)];exact ht.part hb hk
  .refine⟨hs.length+1,by omega,by rw[List.length_append];simp,?_⟩;rw[List.take_of_length_le (by rw[List.length_append,iK];omega),List.take_of_length_le (by rw[List.length_append];simp)];exact ht.put hb
theorem qJ.sub {F G hs:List (List UInt8)} {safe q j:Nat} (h:qJ (F++G) hs safe q):qJ (F++G.take j) hs safe q:=fun n h1 h2=>by
 have e:(F++G.take j).take n=(F++G).take n:=by
  rw[List.length_append,List.length_take] at h2;rw[List.take_append,List.take_append,List.take_take,Nat.min_eq_left (by omega)]
 rw[e];exact h n h1 (by rw[List.length_append] at h2 ⊢;rw[List.length_take] at h2;omega)
end Go.Proofs.YtmbaiglpgaoogaaGreat
