/- Joined, as they were built one by one: Book Book2. -/
import Derived.Deep.CutBlock
import Derived.Test.YtmbaiglpgaoogaaGreatW02
import Derived.Test.YtmbaiglpgaoogaaGreatP01
set_option maxHeartbeats 16000000
set_option linter.unusedVariables false
set_option maxRecDepth 100000
namespace Go.Proofs.YtmbaiglpgaoogaaGreat
open Go.RowKit Z
structure MT (w:World) (k:Nat) (vb vs:Value):Prop where
 at_:At w k 91 #[vb,vs,.slice none 0 0,.slice none 0 0,.slice none 0 0,.slice none 0 0]
structure Lr (b1 b2:Nat) (w:World) (k:Nat) (es:bY):Prop where
 le:b1<=b2/\b2<=k
 ex: ∃ vb vs ss,MT w k vb vs/\w.ownsRow b2 41 1 vb es.length (es.map aI)/\eT b2 w vs ss/\bK ss=bK es/\(∀ g,vb.ownBlock=some g->vs.ownBlock≠some g)
 own:ic b1 w es
theorem ME (b1 b2 k:Nat) (es:bY) (w:World) (h:Lr b1 b2 w k es) (hn:es.length<=1000000):
 Calls Tryz.prog 49 #[.pointer (some ⟨k,0,none⟩)] w fun e w'=>e = .returned (.bool true)/\ ∃ n,w'=w.drewN n:=by
 obtain⟨vb,vs,ss,hh,hrow,hss,htx,hne⟩:=h.ex;obtain⟨Ab,cb,rfl,hrb,_,_,_⟩:=Et hrow;obtain⟨As,cs,rfl,hrs,_,_,_⟩:=Et hss.row;have hlen:ss.length=es.length:=by have:=congrArg List.length htx;simpa [bK] using this
 have HR:Hid (rm w Ab es):=ah ⟨hrb,fun x hx=>h.own.rd hx⟩;have HR':Hid (rm w As ss):=ah ⟨hrs,fun x hx=>hss.each.rd hx⟩;have HE:=ah htx;have HN:=ah hlen;have hk0:w.cell? ⟨k,0,none⟩=some (.slice Ab es.length cb):=by rw[hh.at_.cell];rfl
 have hk1:w.cell? ⟨k,1,none⟩=some (.slice As es.length cs):=by rw[hh.at_.cell, <-hlen];rfl
 have hk2:w.cell? ⟨k,2,none⟩=some (.slice none 0 0):=by rw[hh.at_.cell];rfl
 have hk4:w.cell? ⟨k,4,none⟩=some (.slice none 0 0):=by rw[hh.at_.cell];rfl
 clear h hh hrow hss htx hne hrb hrs hlen;go_enter Tryz.func49, Tryz.ntmps49;go_wp2;go_loopw [3] (fun i wr=> ∃ q:Nat,q<=es.length/\i = .int .i64 q/\Hid (∃ n,wr=w.drewN n)) (fun i _=>es.length - (intOf i).toNat)
 case atStart=>exact⟨0,by omega,rfl,0,rfl⟩
 case round=>
  obtain⟨q,hq,rfl,HD⟩:=hrel;obtain⟨n,hn'⟩:=HD.o;subst hn';clear HD;have hk0':(w.drewN n).cell? ⟨k,0,none⟩=some (.slice Ab es.length cb):=hk0;have hk1':(w.drewN n).cell? ⟨k,1,none⟩=some (.slice As es.length cs):=hk1;have hk2':(w.drewN n).cell? ⟨k,2,none⟩=some (.slice none 0 0):=hk2;have hk4':(w.drewN n).cell? ⟨k,4,none⟩=some (.slice none 0 0):=hk4;by_cases hlt:q<es.length
  .have hlt':q<ss.length:=by have:=HN.o;omega
   obtain⟨⟨b,o,rfl,hc⟩,hx⟩:=HR.o.get hlt;obtain⟨⟨b',o',rfl,hc'⟩,hx'⟩:=HR'.o.get hlt';have hexy:es[q].2.2=ss[q].2.2:=by
    have:=congrArg (fun l=>l[q]?) HE.o;simpa [bK,hlt,hlt'] using this.symm
   have HXY:=ah hexy;have HX:=ah hx;have HX':=ah hx';clear hexy hx hx';generalize es[q]=x at*
   generalize ss[q]=y at*
   have hk6:q<1000000:=by omega
   have hli:(q:Int)<es.length:=by omega
   have HQ:Hid (∀ W,Rd W x.1 x.2.2->Rd W y.1 y.2.2->Calls Tryz.prog 36 #[.slice x.1 x.2.2.length x.2.1,.slice y.1 y.2.2.length y.2.1] W fun e w'=>e = .returned (.bool true)/\w'=W):=fun W h1 h2=>(M5 _ _ _ _ _ _ W h1 h2).mono fun e w' ⟨he,hw⟩=>⟨by rw[he,HXY.o,beq_self_eq_true],hw.symm⟩
   go_wp2_with fail;go_quiet ((go_at_call 36;exact LQ (HQ.o _ (HX.o.drewN _) (HX'.o.drewN _))))
   go_wp2_with fail;go_roundw
   case rel=>exact⟨q+1,by omega,by go_num,_,rfl⟩
   case measure=>simp[intOf];omega
  .go_wp2_with fail;go_loopw [4] (fun i wr=>i = .int .i64 0/\Hid (wr=w.drewN n)) (fun _ _=>0)
   case atStart=>exact⟨rfl,rfl⟩
   case round=>
    obtain⟨rfl,hw⟩:=hrel;obtain rfl:=hw.o;clear hw;go_wp2_with fail;go_loopw [5] (fun i wr=>i = .int .i64 0/\Hid (wr=w.drewN n)) (fun _ _=>0)
    case atStart=>exact⟨rfl,rfl⟩
    case round=>
     obtain⟨rfl,hw⟩:=hrel;obtain rfl:=hw.o;clear hw;go_wp2_with fail;go_ret;exact⟨rfl,_,rfl⟩
end Go.Proofs.YtmbaiglpgaoogaaGreat
