/- Joined, as they were built one by one: TabWakes. -/
import Derived.Test.YtmbaiglpgaoogaaGreatV09
import Derived.Test.YtmbaiglpgaoogaaGreatV24
import Derived.Test.YtmbaiglpgaoogaaGreatV27
import Derived.Test.YtmbaiglpgaoogaaGreatV29
import Derived.Test.YtmbaiglpgaoogaaGreatV31
namespace Go.Proofs.YtmbaiglpgaoogaaGreat
open Go.RowKit
set_option linter.unusedVariables false
set_option maxRecDepth 100000
theorem buildB_len {L:List Ent} (h:buildE L=0):(buildB L).length<=140737488355328:=by
 have hf:=buildE_few h;have hk: ∀ e ∈ L,e.key.length<=128/\e.value.length<=16384:=fun e he=>by have:=mayE_iff.1 (buildE_may h e he);exact⟨this.1,this.2.1⟩
 have h1:=bodyB_len L hk L.length;have h2:=idxB_len L hk L.length;have h3:=bitsB_len L;have h4:=unlike_len L L.length;have h5:=(nbytes_le (unlike L L.length).length 10 ⟨by omega,by omega,by omega,by omega⟩).2.2;unfold buildB allB;simp only[List.length_append,putB_len];omega
def Laid7 (L:List Ent) (w:World) (x:Ending) (w':World):Prop:= ∃ (B:Option Addr) (d:Nat),x = .returned (.tuple #[.slice B (buildB L).length d,.int .i64 0])/\(buildB L).length<=d/\d<=maxLen/\Sat w (Row 5 1 (.slice B (buildB L).length d) (buildB L).length ((buildB L).map bv)*Emp) w'
theorem bld7 (A:Option Addr) (c:Nat) (es:List En) (L:List Ent) (hL:es.map En.ent=L) (hb:buildE L=0) (hs: ∀ e ∈ L,e.seq<9223372036854775808) (w:World) (h:RdV w A (es.flatMap enV)) (hr:EnsR w es) (hc:es.length<=c) (hm:c<=maxLen) (hcap: ∀ y ∈ es,CapE y):
  Calls Tryz.prog 142 #[.slice A es.length c] w (Laid7 L w):=by
 have hm2: ∀ e ∈ es,mayE e.ent=true:=fun e he=>buildE_may hb _ (by rw[<-hL];exact List.mem_map_of_mem he)
 refine(build_any A c es w h hr hc hm (fun e he=>?_) (fun e he=>hs _ (by rw[<-hL];exact List.mem_map_of_mem he))).mono ?_
 .have h1:=mayE_iff.1 (hm2 e he);have h2:=hcap e he;have h3:e.key.2.2.length<=128:=h1.1;have h4:e.value.2.2.length<=16384:=h1.2.1;exact⟨by omega,by omega,h2.1.1,h2.1.2⟩
 .rintro x w' (⟨h1,_⟩ | ⟨_,B,d,rfl,h2,h3,h4⟩)
  .rw[hL] at h1;exact absurd hb h1
  .rw[hL] at h2 h4 ⊢;exact⟨B,d,rfl,h2,h3,h4⟩
def Open7 (L:List Ent) (w:World) (x:Ending) (w':World):Prop:= ∃ (T:Nat) (es:List En),x = .returned (.tuple #[.pointer (some ⟨T,0,none⟩),.int .i64 0])/\es.map En.ent=L/\TabR w' T es/\Chg No w w'
theorem opn7 (B:Option Addr) (n d:Nat) (L:List Ent) (hb:buildE L=0) (hs: ∀ e ∈ L,e.seq<9223372036854775808) (w:World) (hn:n=(buildB L).length) (h:Rd w B (buildB L)) (hc:n<=d) (hm:d<=maxLen):
  Calls Tryz.prog 106 #[.slice B n d] w (Open7 L w):=by
 subst hn;refine(topen_any B d (buildB L) w h hc hm (buildB_len hb)).mono ?_;rintro x w' (⟨h1,_⟩ | ⟨_,T,es,rfl,h2,h3,h4,h5⟩)
 .exact absurd (openE_build hb hs) h1
 .rw[(readP_build hb hs).1] at h2;exact⟨T,es,rfl,h2,h3,h5⟩
end Go.Proofs.YtmbaiglpgaoogaaGreat
