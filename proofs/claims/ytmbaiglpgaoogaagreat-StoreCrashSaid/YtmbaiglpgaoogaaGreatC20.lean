/- Joined, as they were built one by one: TabWakes. -/
import Derived.Test.YtmbaiglpgaoogaaGreatC04
import Derived.Test.YtmbaiglpgaoogaaGreatC13
import Derived.Test.YtmbaiglpgaoogaaGreatC14
import Derived.Test.YtmbaiglpgaoogaaGreatC18
import Derived.Test.YtmbaiglpgaoogaaGreatC19
set_option linter.unusedVariables false
set_option maxRecDepth 100000
namespace Go.Proofs.YtmbaiglpgaoogaaGreat
open Go.RowKit Z
theorem sI {L:List aw} (h:cd L=0):(aR L).length<=140737488355328:=by
 have hf:=sK h;have hk: ∀ e ∈ L,e.key.length<=128/\e.value.length<=16384:=fun e he=>by have:=ir.1 (jS h e he);exact⟨this.1,this.2.1⟩
 have h1:=oq L hk L.length;have h2:=rB L hk L.length;have h3:=oJ L;have h4:=gU L L.length;have h5:=(jz (dh L L.length).length 10 ⟨by omega,by omega,by omega,by omega⟩).2.2;unfold aR Et;simp only[List.length_append,aB];omega
def MG (L:List aw) (w:World) (x:Ending) (w':World):Prop:= ∃ (B:Option Addr) (d:Nat),x = .returned (.tuple #[.slice B (aR L).length d,.int .i64 0])/\(aR L).length<=d/\d<=maxLen/\Sat w (Row 5 1 (.slice B (aR L).length d) (aR L).length ((aR L).map bv)*aV) w'
theorem MY (A:Option Addr) (c:Nat) (es:List En) (L:List aw) (hL:es.map En.ao=L) (hb:cd L=0) (hs: ∀ e ∈ L,e.seq<9223372036854775808) (w:World) (h:aH w A (es.flatMap cu)) (hr:jH w es) (hc:es.length<=c) (hm:c<=maxLen) (hcap: ∀ y ∈ es,JU y):
 Calls Tryz.prog 142 #[.slice A es.length c] w (MG L w):=by
 have hm2: ∀ e ∈ es,gM e.ao=true:=fun e he=>jS hb _ (by rw[<-hL];exact List.mem_map_of_mem he)
 refine(tD A c es w h hr hc hm (fun e he=>?_) (fun e he=>hs _ (by rw[<-hL];exact List.mem_map_of_mem he))).mono ?_
 .have h1:=ir.1 (hm2 e he);have h2:=hcap e he;have h3:e.key.2.2.length<=128:=h1.1;have h4:e.value.2.2.length<=16384:=h1.2.1;exact⟨by omega,by omega,h2.1.1,h2.1.2⟩
 .rintro x w' (⟨h1,_⟩ | ⟨_,B,d,rfl,h2,h3,h4⟩)
  .rw[hL] at h1;exact absurd hb h1
  .rw[hL] at h2 h4 ⊢;exact⟨B,d,rfl,h2,h3,h4⟩
def Mq (L:List aw) (w:World) (x:Ending) (w':World):Prop:= ∃ (T:Nat) (es:List En),x = .returned (.tuple #[.pointer (some ⟨T,0,none⟩),.int .i64 0])/\es.map En.ao=L/\mL w' T es/\aq No w w'
theorem Ng (B:Option Addr) (n d:Nat) (L:List aw) (hb:cd L=0) (hs: ∀ e ∈ L,e.seq<9223372036854775808) (w:World) (hn:n=(aR L).length) (h:Rd w B (aR L)) (hc:n<=d) (hm:d<=maxLen):
 Calls Tryz.prog 106 #[.slice B n d] w (Mq L w):=by
 subst hn;refine(DW B d (aR L) w h hc hm (sI hb)).mono ?_;rintro x w' (⟨h1,_⟩ | ⟨_,T,es,rfl,h2,h3,h4,h5⟩)
 .exact absurd (zo hb hs) h1
 .rw[(py hb hs).1] at h2;exact⟨T,es,rfl,h2,h3,h5⟩
end Go.Proofs.YtmbaiglpgaoogaaGreat
