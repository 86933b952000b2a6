/- Joined, as they were built one by one: WalCut. -/
import Derived.Test.YtmbaiglpgaoogaaGreatW02
import Derived.Test.YtmbaiglpgaoogaaGreatW11
import Derived.Test.YtmbaiglpgaoogaaGreatW12
import Derived.Test.YtmbaiglpgaoogaaGreatW16
import Derived.Test.YtmbaiglpgaoogaaGreatW25
set_option linter.unusedVariables false
set_option maxRecDepth 100000
namespace Go.Proofs.YtmbaiglpgaoogaaGreat
open Go.RowKit Z
def uj (F hs:List (List UInt8)):Prop:= ∀ fs, ∃ c,aH none (F++fs)=hs++aH c fs
theorem uj.nil:uj [] []:=fun fs=>⟨none,rfl⟩
theorem uj.whole {F hs:List (List UInt8)} (h:uj F hs):whole F=hs:=by
 obtain⟨c,hc⟩:=h [];rw[List.append_nil,rn,List.append_nil] at hc;exact hc
theorem uj.put {F hs:List (List UInt8)} {b:List UInt8} (h:uj F hs) (hb:b.length<=262144):uj (F++split b) (hs++[b]):=fun fs=>by
 obtain⟨c,hc⟩:=h (split b++fs);refine⟨none,?_⟩;rw[List.append_assoc,hc,oI b hb,List.append_assoc];rfl
theorem uj.part {F hs:List (List UInt8)} {b:List UInt8} {k:Nat} (h:uj F hs) (hb:b.length<=262144) (hk:k<bh b.length):uj (F++(split b).take k) hs:=fun fs=>by
 obtain⟨c,hc⟩:=h ((split b).take k++fs);obtain⟨c2,hc2⟩:=rz b hb k hk c fs;refine⟨c2,?_⟩;rw[List.append_assoc,hc,hc2]
def rf (F hs:List (List UInt8)) (safe q:Nat):Prop:= ∀ n,q<=n->n<=F.length-> ∃ m,safe<=m/\m<=hs.length/\uj (F.take n) (hs.take m)
theorem rf.all {F hs:List (List UInt8)} (h:uj F hs):rf F hs hs.length F.length:=fun n h1 h2=>⟨hs.length,Nat.le_refl _,Nat.le_refl _,by
 rw[List.take_of_length_le h1,List.take_length];exact h⟩
theorem rf.put {F hs:List (List UInt8)} {b:List UInt8} {safe q:Nat} (h:rf F hs safe q) (ht:uj F hs) (hs2:safe<=hs.length) (hb:b.length<=262144):rf (F++split b) (hs++[b]) safe q:=fun n h1 h2=>by
 by_cases hn:n<=F.length
 .obtain⟨m,m1,m2,m3⟩:=h n h1 hn;refine⟨m,m1,by rw[List.length_append];omega,?_⟩;rw[List.take_append_of_le_length hn,List.take_append_of_le_length m2];exact m3
 .rw[List.length_append,iW] at h2;by_cases hk:n - F.length<bh b.length
  .refine⟨hs.length,hs2,by rw[List.length_append];omega,?_⟩;rw[List.take_append_of_le_length (Nat.le_refl _),List.take_length,List.take_append,List.take_of_length_le (by omega)];exact ht.part hb hk
  .refine⟨hs.length+1,by omega,by rw[List.length_append];simp,?_⟩;rw[List.take_of_length_le (by rw[List.length_append,iW];omega),List.take_of_length_le (by rw[List.length_append];simp)];exact ht.put hb
theorem rf.sub {F G hs:List (List UInt8)} {safe q j:Nat} (h:rf (F++G) hs safe q):rf (F++G.take j) hs safe q:=fun n h1 h2=>by
 have e:(F++G.take j).take n=(F++G).take n:=by
  rw[List.length_append,List.length_take] at h2;rw[List.take_append,List.take_append,List.take_take,Nat.min_eq_left (by omega)]
 rw[e];exact h n h1 (by rw[List.length_append] at h2 ⊢;rw[List.length_take] at h2;omega)
end Go.Proofs.YtmbaiglpgaoogaaGreat
