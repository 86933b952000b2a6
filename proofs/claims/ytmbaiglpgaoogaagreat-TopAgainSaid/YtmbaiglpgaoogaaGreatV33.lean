/- Joined, as they were built one by one: WalCut. -/
import Derived.Test.YtmbaiglpgaoogaaGreatV04
import Derived.Test.YtmbaiglpgaoogaaGreatV05
import Derived.Test.YtmbaiglpgaoogaaGreatV08
import Derived.Test.YtmbaiglpgaoogaaGreatV18
namespace Go.Proofs.YtmbaiglpgaoogaaGreat
open Go.RowKit
set_option linter.unusedVariables false
set_option maxRecDepth 100000
def Tel (F hs:List (List UInt8)):Prop:= ∀ fs, ∃ c,wholeFrom none (F++fs)=hs++wholeFrom c fs
theorem Tel.nil:Tel [] []:=fun fs=>⟨none,rfl⟩
theorem Tel.whole {F hs:List (List UInt8)} (h:Tel F hs):whole F=hs:=by
 obtain⟨c,hc⟩:=h [];rw[List.append_nil,wholeFrom_nil,List.append_nil] at hc;exact hc
theorem Tel.put {F hs:List (List UInt8)} {b:List UInt8} (h:Tel F hs) (hb:b.length<=262144):Tel (F++split b) (hs++[b]):=fun fs=>by
 obtain⟨c,hc⟩:=h (split b++fs);refine⟨none,?_⟩;rw[List.append_assoc,hc,wholeFrom_split b hb,List.append_assoc];rfl
theorem Tel.part {F hs:List (List UInt8)} {b:List UInt8} {k:Nat} (h:Tel F hs) (hb:b.length<=262144) (hk:k<needN b.length):Tel (F++(split b).take k) hs:=fun fs=>by
 obtain⟨c,hc⟩:=h ((split b).take k++fs);obtain⟨c2,hc2⟩:=wholeFrom_cut b hb k hk c fs;refine⟨c2,?_⟩;rw[List.append_assoc,hc,hc2]
def Cra (F hs:List (List UInt8)) (safe q:Nat):Prop:= ∀ n,q<=n->n<=F.length-> ∃ m,safe<=m/\m<=hs.length/\Tel (F.take n) (hs.take m)
theorem Cra.all {F hs:List (List UInt8)} (h:Tel F hs):Cra F hs hs.length F.length:=fun n h1 h2=>⟨hs.length,Nat.le_refl _,Nat.le_refl _,by
 rw[List.take_of_length_le h1,List.take_length];exact h⟩
theorem Cra.put {F hs:List (List UInt8)} {b:List UInt8} {safe q:Nat} (h:Cra F hs safe q) (ht:Tel F hs) (hs2:safe<=hs.length) (hb:b.length<=262144):Cra (F++split b) (hs++[b]) safe q:=fun n h1 h2=>by
 by_cases hn:n<=F.length
 .obtain⟨m,m1,m2,m3⟩:=h n h1 hn;refine⟨m,m1,by rw[List.length_append];omega,?_⟩;rw[List.take_append_of_le_length hn,List.take_append_of_le_length m2];exact m3
 .rw[List.length_append,split_len] at h2;by_cases hk:n - F.length<needN b.length
  .refine⟨hs.length,hs2,by rw[List.length_append];omega,?_⟩;rw[List.take_append_of_le_length (Nat.le_refl _),List.take_length,List.take_append,List.take_of_length_le (by omega)];exact ht.part hb hk
  .refine⟨hs.length+1,by omega,by rw[List.length_append];simp,?_⟩;rw[List.take_of_length_le (by rw[List.length_append,split_len];omega),List.take_of_length_le (by rw[List.length_append];simp)];exact ht.put hb
theorem Cra.sub {F G hs:List (List UInt8)} {safe q j:Nat} (h:Cra (F++G) hs safe q):Cra (F++G.take j) hs safe q:=fun n h1 h2=>by
 have e:(F++G.take j).take n=(F++G).take n:=by
  rw[List.length_append,List.length_take] at h2;rw[List.take_append,List.take_append,List.take_take,Nat.min_eq_left (by omega)]
 rw[e];exact h n h1 (by rw[List.length_append] at h2 ⊢;rw[List.length_take] at h2;omega)
end Go.Proofs.YtmbaiglpgaoogaaGreat
