/- Joined, as they were built one by one: TabWakes. -/
import Derived.Test.YtmbaiglpgaoogaaGreatC04
import Derived.Test.YtmbaiglpgaoogaaGreatC13
import Derived.Test.YtmbaiglpgaoogaaGreatC14
import Derived.Test.YtmbaiglpgaoogaaGreatC18
import Derived.Test.YtmbaiglpgaoogaaGreatC19
set_option linter.unusedVariables false
set_option maxRecDepth 100000
namespace Go.Proofs.YtmbaiglpgaoogaaGreat
open Go.RowKit
theorem qO {L:List aw} (h:cd L=0):(aR L).length<=140737488355328:=by
 have hf:=qy h;have hk: ∀ e ∈ L,e.key.length<=128/\e.value.length<=16384:=fun e he=>by have:=iD.1 (jN h e he);exact⟨this.1,this.2.1⟩
 have h1:=nZ L hk L.length;have h2:=sI L hk L.length;have h3:=oE L;have h4:=ib L L.length;have h5:=(jo (dh L L.length).length 10 ⟨by omega,by omega,by omega,by omega⟩).2.2;unfold aR De;simp only[List.length_append,aB];omega
def Mc (L:List aw) (w:World) (x:Ending) (w':World):Prop:= ∃ (B:Option Addr) (d:Nat),x = .returned (.tuple #[.slice B (aR L).length d,.int .i64 0])/\(aR L).length<=d/\d<=maxLen/\Sat w (Row 5 1 (.slice B (aR L).length d) (aR L).length ((aR L).map bv)*aV) w'
theorem Np (A:Option Addr) (c:Nat) (es:List En) (L:List aw) (hL:es.map En.ao=L) (hb:cd L=0) (hs: ∀ e ∈ L,e.seq<9223372036854775808) (w:World) (h:aH w A (es.flatMap cq)) (hr:km w es) (hc:es.length<=c) (hm:c<=maxLen) (hcap: ∀ y ∈ es,J5 y):
 Calls Tryz.prog 142 #[.slice A es.length c] w (Mc L w):=by
 have hm2: ∀ e ∈ es,gG e.ao=true:=fun e he=>jN hb _ (by rw[<-hL];exact List.mem_map_of_mem he)
 refine(ua A c es w h hr hc hm (fun e he=>?_) (fun e he=>hs _ (by rw[<-hL];exact List.mem_map_of_mem he))).mono ?_
 .have h1:=iD.1 (hm2 e he);have h2:=hcap e he;have h3:e.key.2.2.length<=128:=h1.1;have h4:e.value.2.2.length<=16384:=h1.2.1;exact⟨by omega,by omega,h2.1.1,h2.1.2⟩
 .rintro x w' (⟨h1,_⟩ | ⟨_,B,d,rfl,h2,h3,h4⟩)
  .rw[hL] at h1;exact absurd hb h1
  .rw[hL] at h2 h4 ⊢;exact⟨B,d,rfl,h2,h3,h4⟩
def MH (L:List aw) (w:World) (x:Ending) (w':World):Prop:= ∃ (T:Nat) (es:List En),x = .returned (.tuple #[.pointer (some ⟨T,0,none⟩),.int .i64 0])/\es.map En.ao=L/\mY w' T es/\aq No w w'
theorem Nt (B:Option Addr) (n d:Nat) (L:List aw) (hb:cd L=0) (hs: ∀ e ∈ L,e.seq<9223372036854775808) (w:World) (hn:n=(aR L).length) (h:Rd w B (aR L)) (hc:n<=d) (hm:d<=maxLen):
 Calls Tryz.prog 106 #[.slice B n d] w (MH L w):=by
 subst hn;refine(Ds B d (aR L) w h hc hm (qO hb)).mono ?_;rintro x w' (⟨h1,_⟩ | ⟨_,T,es,rfl,h2,h3,h4,h5⟩)
 .exact absurd (yq hb hs) h1
 .rw[(pB hb hs).1] at h2;exact⟨T,es,rfl,h2,h3,h5⟩
end Go.Proofs.YtmbaiglpgaoogaaGreat
