/- Joined, as they were built one by one: TabWakes. -/
import Derived.Test.YtmbaiglpgaoogaaGreatW04
import Derived.Test.YtmbaiglpgaoogaaGreatW15
import Derived.Test.YtmbaiglpgaoogaaGreatW18
import Derived.Test.YtmbaiglpgaoogaaGreatW22
import Derived.Test.YtmbaiglpgaoogaaGreatW23
set_option linter.unusedVariables false
set_option maxRecDepth 100000
namespace Go.Proofs.YtmbaiglpgaoogaaGreat
open Go.RowKit Z
theorem pr {L:List aq} (h:bR L=0):(aM L).length<=140737488355328:=by
 have hf:=pz h;have hk: ∀ e ∈ L,e.key.length<=128/\e.value.length<=16384:=fun e he=>by have:=gR.1 (jJ h e he);exact⟨this.1,this.2.1⟩
 have h1:=nF L hk L.length;have h2:=pO L hk L.length;have h3:=ny L;have h4:=gQ L L.length;have h5:=(iJ (cT L L.length).length 10 ⟨by omega,by omega,by omega,by omega⟩).2.2;unfold aM BN;simp only[List.length_append,aw];omega
def JH (L:List aq) (w:World) (x:Ending) (w':World):Prop:= ∃ (B:Option Addr) (d:Nat),x = .returned (.tuple #[.slice B (aM L).length d,.int .i64 0])/\(aM L).length<=d/\d<=maxLen/\Sat w (Row 5 1 (.slice B (aM L).length d) (aM L).length ((aM L).map bv)*bF) w'
theorem KQ (A:Option Addr) (c:Nat) (es:List En) (L:List aq) (hL:es.map En.ak=L) (hb:bR L=0) (hs: ∀ e ∈ L,e.seq<9223372036854775808) (w:World) (h:aF w A (es.flatMap bV)) (hr:jG w es) (hc:es.length<=c) (hm:c<=maxLen) (hcap: ∀ y ∈ es,G2 y):
 Calls Tryz.prog 142 #[.slice A es.length c] w (JH L w):=by
 have hm2: ∀ e ∈ es,fU e.ak=true:=fun e he=>jJ hb _ (by rw[<-hL];exact List.mem_map_of_mem he)
 refine(sw A c es w h hr hc hm (fun e he=>?_) (fun e he=>hs _ (by rw[<-hL];exact List.mem_map_of_mem he))).mono ?_
 .have h1:=gR.1 (hm2 e he);have h2:=hcap e he;have h3:e.key.2.2.length<=128:=h1.1;have h4:e.value.2.2.length<=16384:=h1.2.1;exact⟨by omega,by omega,h2.1.1,h2.1.2⟩
 .rintro x w' (⟨h1,_⟩ | ⟨_,B,d,rfl,h2,h3,h4⟩)
  .rw[hL] at h1;exact absurd hb h1
  .rw[hL] at h2 h4 ⊢;exact⟨B,d,rfl,h2,h3,h4⟩
def J7 (L:List aq) (w:World) (x:Ending) (w':World):Prop:= ∃ (T:Nat) (es:List En),x = .returned (.tuple #[.pointer (some ⟨T,0,none⟩),.int .i64 0])/\es.map En.ak=L/\mq w' T es/\ao No w w'
theorem KG (B:Option Addr) (n d:Nat) (L:List aq) (hb:bR L=0) (hs: ∀ e ∈ L,e.seq<9223372036854775808) (w:World) (hn:n=(aM L).length) (h:Rd w B (aM L)) (hc:n<=d) (hm:d<=maxLen):
 Calls Tryz.prog 106 #[.slice B n d] w (J7 L w):=by
 subst hn;refine(CK B d (aM L) w h hc hm (pr hb)).mono ?_;rintro x w' (⟨h1,_⟩ | ⟨_,T,es,rfl,h2,h3,h4,h5⟩)
 .exact absurd (uP hb hs) h1
 .rw[(nZ hb hs).1] at h2;exact⟨T,es,rfl,h2,h3,h5⟩
end Go.Proofs.YtmbaiglpgaoogaaGreat
