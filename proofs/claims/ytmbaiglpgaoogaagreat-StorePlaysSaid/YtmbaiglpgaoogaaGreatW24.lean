/- Joined, as they were built one by one: TabWakes. -/
import Derived.Test.YtmbaiglpgaoogaaGreatW04
import Derived.Test.YtmbaiglpgaoogaaGreatW15
import Derived.Test.YtmbaiglpgaoogaaGreatW18
import Derived.Test.YtmbaiglpgaoogaaGreatW22
import Derived.Test.YtmbaiglpgaoogaaGreatW23
namespace Go.Proofs.YtmbaiglpgaoogaaGreat
open Go.RowKit
set_option linter.unusedVariables false
set_option maxRecDepth 100000
theorem qh {L:List aq} (h:bR L=0):(aN L).length<=140737488355328:=by
 have hf:=qg h;have hk: ∀ e ∈ L,e.key.length<=128/\e.value.length<=16384:=fun e he=>by have:=gG.1 (jC h e he);exact⟨this.1,this.2.1⟩
 have h1:=nh L hk L.length;have h2:=pb L hk L.length;have h3:=mX L;have h4:=gO L L.length;have h5:=(jd (cP L L.length).length 10 ⟨by omega,by omega,by omega,by omega⟩).2.2;unfold aN Bl;simp only[List.length_append,aw];omega
def I8 (L:List aq) (w:World) (x:Ending) (w':World):Prop:= ∃ (B:Option Addr) (d:Nat),x = .returned (.tuple #[.slice B (aN L).length d,.int .i64 0])/\(aN L).length<=d/\d<=maxLen/\Sat w (Row 5 1 (.slice B (aN L).length d) (aN L).length ((aN L).map bv)*bE) w'
theorem Kj (A:Option Addr) (c:Nat) (es:List En) (L:List aq) (hL:es.map En.ak=L) (hb:bR L=0) (hs: ∀ e ∈ L,e.seq<9223372036854775808) (w:World) (h:aG w A (es.flatMap bV)) (hr:jM w es) (hc:es.length<=c) (hm:c<=maxLen) (hcap: ∀ y ∈ es,Gf y):
 Calls Tryz.prog 142 #[.slice A es.length c] w (I8 L w):=by
 have hm2: ∀ e ∈ es,fS e.ak=true:=fun e he=>jC hb _ (by rw[<-hL];exact List.mem_map_of_mem he)
 refine(rr A c es w h hr hc hm (fun e he=>?_) (fun e he=>hs _ (by rw[<-hL];exact List.mem_map_of_mem he))).mono ?_
 .have h1:=gG.1 (hm2 e he);have h2:=hcap e he;have h3:e.key.2.2.length<=128:=h1.1;have h4:e.value.2.2.length<=16384:=h1.2.1;exact⟨by omega,by omega,h2.1.1,h2.1.2⟩
 .rintro x w' (⟨h1,_⟩ | ⟨_,B,d,rfl,h2,h3,h4⟩)
  .rw[hL] at h1;exact absurd hb h1
  .rw[hL] at h2 h4 ⊢;exact⟨B,d,rfl,h2,h3,h4⟩
def JE (L:List aq) (w:World) (x:Ending) (w':World):Prop:= ∃ (T:Nat) (es:List En),x = .returned (.tuple #[.pointer (some ⟨T,0,none⟩),.int .i64 0])/\es.map En.ak=L/\l5 w' T es/\ao No w w'
theorem Kg (B:Option Addr) (n d:Nat) (L:List aq) (hb:bR L=0) (hs: ∀ e ∈ L,e.seq<9223372036854775808) (w:World) (hn:n=(aN L).length) (h:Rd w B (aN L)) (hc:n<=d) (hm:d<=maxLen):
 Calls Tryz.prog 106 #[.slice B n d] w (JE L w):=by
 subst hn;refine(AE B d (aN L) w h hc hm (qh hb)).mono ?_;rintro x w' (⟨h1,_⟩ | ⟨_,T,es,rfl,h2,h3,h4,h5⟩)
 .exact absurd (wk hb hs) h1
 .rw[(nH hb hs).1] at h2;exact⟨T,es,rfl,h2,h3,h5⟩
end Go.Proofs.YtmbaiglpgaoogaaGreat
