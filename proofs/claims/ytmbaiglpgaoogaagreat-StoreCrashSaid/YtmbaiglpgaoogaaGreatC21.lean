/- Joined, as they were built one by one: WalCut. -/
import Derived.Test.YtmbaiglpgaoogaaGreatC02
import Derived.Test.YtmbaiglpgaoogaaGreatC10
import Derived.Test.YtmbaiglpgaoogaaGreatC11
import Derived.Test.YtmbaiglpgaoogaaGreatC15
set_option linter.unusedVariables false
set_option maxRecDepth 100000
namespace Go.Proofs.YtmbaiglpgaoogaaGreat
open Go.RowKit Z
def uX (F hs:List (List UInt8)):Prop:= ∀ fs, ∃ c,aM none (F++fs)=hs++aM c fs
theorem uX.nil:uX [] []:=fun fs=>⟨none,rfl⟩
theorem uX.whole {F hs:List (List UInt8)} (h:uX F hs):whole F=hs:=by
 obtain⟨c,hc⟩:=h [];rw[List.append_nil,sR,List.append_nil] at hc;exact hc
theorem uX.put {F hs:List (List UInt8)} {b:List UInt8} (h:uX F hs) (hb:b.length<=262144):uX (F++split b) (hs++[b]):=fun fs=>by
 obtain⟨c,hc⟩:=h (split b++fs);refine⟨none,?_⟩;rw[List.append_assoc,hc,pX b hb,List.append_assoc];rfl
theorem uX.part {F hs:List (List UInt8)} {b:List UInt8} {k:Nat} (h:uX F hs) (hb:b.length<=262144) (hk:k<bz b.length):uX (F++(split b).take k) hs:=fun fs=>by
 obtain⟨c,hc⟩:=h ((split b).take k++fs);obtain⟨c2,hc2⟩:=sO b hb k hk c fs;refine⟨c2,?_⟩;rw[List.append_assoc,hc,hc2]
def sL (F hs:List (List UInt8)) (safe q:Nat):Prop:= ∀ n,q<=n->n<=F.length-> ∃ m,safe<=m/\m<=hs.length/\uX (F.take n) (hs.take m)
theorem sL.all {F hs:List (List UInt8)} (h:uX F hs):sL F hs hs.length F.length:=fun n h1 h2=>⟨hs.length,Nat.le_refl _,Nat.le_refl _,by
 rw[List.take_of_length_le h1,List.take_length];exact h⟩
theorem sL.put {F hs:List (List UInt8)} {b:List UInt8} {safe q:Nat} (h:sL F hs safe q) (ht:uX F hs) (hs2:safe<=hs.length) (hb:b.length<=262144):sL (F++split b) (hs++[b]) safe q:=fun n h1 h2=>by
 by_cases hn:n<=F.length
 .obtain⟨m,m1,m2,m3⟩:=h n h1 hn;refine⟨m,m1,by rw[List.length_append];omega,?_⟩;rw[List.take_append_of_le_length hn,List.take_append_of_le_length m2];exact m3
 .rw[List.length_append,jo] at h2;by_cases hk:n - F.length<bz b.length
  .refine⟨hs.length,hs2,by rw[List.length_append];omega,?_⟩;rw[List.take_append_of_le_length (Nat.le_refl _),List.take_length,List.take_append,List.take_of_length_le (by omega)];exact ht.part hb hk
  .refine⟨hs.length+1,by omega,by rw[List.length_append];simp,?_⟩;rw[List.take_of_length_le (by rw[List.length_append,jo];omega),List.take_of_length_le (by rw[List.length_append];simp)];exact ht.put hb
theorem sL.sub {F G hs:List (List UInt8)} {safe q j:Nat} (h:sL (F++G) hs safe q):sL (F++G.take j) hs safe q:=fun n h1 h2=>by
 have e:(F++G.take j).take n=(F++G).take n:=by
  rw[List.length_append,List.length_take] at h2;rw[List.take_append,List.take_append,List.take_take,Nat.min_eq_left (by omega)]
 rw[e];exact h n h1 (by rw[List.length_append] at h2 ⊢;rw[List.length_take] at h2;omega)
end Go.Proofs.YtmbaiglpgaoogaaGreat
