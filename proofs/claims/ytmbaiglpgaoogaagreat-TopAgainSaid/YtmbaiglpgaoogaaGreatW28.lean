/- Joined, as they were built one by one: Sto16. -/
import Derived.LoopIn
import Derived.LoopNIn
import Derived.OwnWalkIn
import Derived.TacticsInMore
import Derived.Deep.CutBlock
import Derived.Shelf.Abstract
import Derived.Shelf.RegionOpen
import Derived.RangeFuncCalls
import Derived.Test.YtmbaiglpgaoogaaGreatW18
import Derived.Test.YtmbaiglpgaoogaaGreatW20
import Derived.Test.YtmbaiglpgaoogaaGreatW27
set_option maxHeartbeats 16000000
set_option linter.unusedVariables false
set_option maxRecDepth 100000
namespace Go.Proofs.YtmbaiglpgaoogaaGreat
open Go.RowKit Go.Shelf Z
abbrev Jv:=Option Addr × Nat
theorem CZ (bs bk:Nat) (EA:Option Addr) (ec:Nat) (es:List En) (W:World) (K:World->Prop) (hKr: ∀ B,K B->B.cell? ⟨bs,0,none⟩=some (.slice EA es.length ec)/\B.cell? ⟨bk,0,none⟩=some (.int .i64 1024)/\aF B EA (es.flatMap bV)/\jG B es) (hc:es.length<=ec) (hm:ec<=maxLen)
 (hn:es.length<=1024) (N:Nat) (hN:N=if es.length=0 then 0 else 1) (bn l:Nat) (hKn: ∀ A B,K A->ao (fun k=>k=bn\/k=l) A B->K B) (J:List Jv->World->Prop) (hKW:K W) (hJ: ∀ pre A B,J pre A->ao No A B->J pre B)
 (hY: ∀ pre (x:Jv) A,J pre A->(pre=[]/\aF A x.1 (es.flatMap bV)/\jG A es/\es.length<=x.2/\x.2<=maxLen)->YieldAt Fence.wide 10 Tryz.prog l #[.slice x.1 es.length x.2] A fun e B=>e = .returned (.bool true)/\J (pre++[x]) B/\ao (fun k=>k=bn\/k=l) A B) (h0:J [] W):
 CallsIn Fence.wide 11 Tryz.prog 187 #[.func (.yield l) #[] #[],.pointer (some ⟨bs,0,none⟩),.pointer (some ⟨bk,0,none⟩)] W fun e B=>(∃ v,e = .returned v)/\ ∃ xs:List Jv,xs.length=N/\J xs B:=by
 have HN:=ah hN;clear hN;have cb:=(hKr W hKW).1;have ck:=(hKr W hKW).2.1;have HKr:Hid (∀ B,K B->B.cell? ⟨bs,0,none⟩=some (.slice EA es.length ec)/\B.cell? ⟨bk,0,none⟩=some (.int .i64 1024)/\aF B EA (es.flatMap bV)/\jG B es):=hKr;have HKn:Hid (∀ A B,K A->ao (fun k=>k=bn\/k=l) A B->K B):=hKn;have HY:=ah hY;have HJ:=ah hJ;have H0:=ah h0;have HK:=ah hKW;unfold maxLen at hm;clear hKr hKn hY hJ h0 hKW;refine callsIn_of_wp Tryz.func187 rfl trivial ?_ rfl;simp only[Tryz.ntmps187,List.size_toArray,List.length_cons,List.length_nil,Nat.reduceAdd,Nat.reduceSub,Array.replicate_succ,Array.replicate_zero,List.push_toArray,List.append_toArray,List.nil_append,List.cons_append]
 gi_wp2
 gi_loopw [4] (fun i wr=> ∃ (k:Nat) (pre:List Jv),k<=1/\i = .int .i64 (1024*(k:Int))/\Hid (pre.length=k/\(k=1->es.length≠0)/\J pre wr/\K wr)) (fun i _=>1 - ((intOf i).toNat / 1024))
 case atStart=>exact⟨0,[],by omega,by simp,rfl,by omega,H0.o,HK.o⟩
 case round=>
  obtain⟨k,pre,hk,rfl,HD⟩:=hrel;have a0:=(HKr.o _ HD.o.2.2.2).1;have a1:=(HKr.o _ HD.o.2.2.2).2.1;by_cases hlt:k=0/\es.length≠0
  .obtain⟨hk0,he0⟩:=hlt;subst hk0;have hpre:pre=[]:=List.eq_nil_of_length_eq_zero HD.o.1;subst hpre;have hepos:(0:Int)<es.length:=by omega
   have hmin:min (1024:Int) (es.length:Int)=es.length:=by omega
   have kd:K wr.drew:=HKn.o _ _ HD.o.2.2.2 (((ao.refl No wr).drew).mono fun i _ h=>h.elim);have hYx:=HY.o [] (EA,es.length) wr.drew (HJ.o _ _ _ HD.o.2.2.1 ((ao.refl No wr).drew)) ⟨rfl,(HKr.o _ kd).2.2.1,(HKr.o _ kd).2.2.2,Nat.le_refl _,by unfold maxLen;omega⟩;have HKd:=ah kd;clear kd;obtain⟨fn,tmps,assign,body,hy,hR⟩:=hYx;have HR2:=ah hR;clear hR;have hmix: Tryz.prog.follows Departure.mixedOrders=true:=by kernel_rfl
   gi_wp2
   gi_region_with_o (fail)
   all_goals
    gi_wp2
    refine HR2.o.mono ?_;rintro e w4 ⟨rfl,hJ4,k4⟩;have HJ4:=ah hJ4;have HK4:Hid (K w4):=HKn.o _ _ HKd.o k4;have b1:=(HKr.o _ HK4.o).2.1;clear hJ4 k4
    gi_wp2
    go_roundw
    .exact⟨1,[(EA,es.length)],by omega,by simp,rfl,fun _=>he0,HJ4.o,HK4.o⟩
    .simp[intOf]
  .have hres:pre.length=N:=by
    have h1:=HD.o.1;have h2:=HD.o.2.1;rw[HN.o];split<;>omega
   have HRes:=ah hres;have hk2:k=0\/k=1:=by omega
   have hel:k=0->¬ (0:Int)<es.length:=fun h=>by omega
   have hel1:¬ (1024:Int)<es.length:=by omega
   clear hlt hres;rcases hk2 with rfl | rfl
   .have hel0:=hel rfl;clear hel
    gi_wp2
    go_end0
    exact⟨⟨_,rfl⟩,pre,HRes.o,HD.o.2.2.1⟩
   .clear hel
    gi_wp2
    go_end0
    exact⟨⟨_,rfl⟩,pre,HRes.o,HD.o.2.2.1⟩
end Go.Proofs.YtmbaiglpgaoogaaGreat
