/- Joined, as they were built one by one: StRef3 StRef4 StRm StPlL StCrash StTopL. -/
import Derived.Deep.CutBlock
import Derived.Test.YtmbaiglpgaoogaaGreatV01
import Derived.Test.YtmbaiglpgaoogaaGreatV08
import Derived.Test.YtmbaiglpgaoogaaGreatV09
import Derived.Test.YtmbaiglpgaoogaaGreatV11
import Derived.Test.YtmbaiglpgaoogaaGreatV18
import Derived.Test.YtmbaiglpgaoogaaGreatV20
import Derived.Test.YtmbaiglpgaoogaaGreatV28
import Derived.Test.YtmbaiglpgaoogaaGreatV40
import Derived.Test.YtmbaiglpgaoogaaGreatV41
import Derived.Test.YtmbaiglpgaoogaaGreatV42
set_option maxHeartbeats 16000000
namespace Go.Proofs.YtmbaiglpgaoogaaGreat
open Go.RowKit
set_option linter.unusedVariables false
set_option maxRecDepth 100000
section
variable {w0 w w':World} {F:SP} {v:Value} {M:List Kv} {es:List En}
theorem rcheck_any (A:Option Addr) (c:Nat) (ps:List Pu) (w:World) (h:RdV w A (ps.flatMap puC)) (hn:ps.length<=100000) (hb: ∀ p ∈ ps,p.key.2.2.length<=1000000000/\p.value.2.2.length<=1000000000):
  Calls Tryz.prog 74 #[.slice A ps.length c] w fun x w'=>x = .returned (.int .i64 (chkB (ps.map Pu.chn):Nat))/\Chg No w w':=by
 have HL:=ah h;have HB:=ah hb;have HSum:Hid (∀ i,i<=ps.length->(((ps.take i).map Pu.chn).map sizC).sum<=300000000000000):=fun i hi=>by
  have h1:=siz_le 2000000016 ((ps.take i).map Pu.chn) (fun p hp=>by
   obtain⟨q,hq,rfl⟩:=List.mem_map.1 hp;have h2:=hb q (List.mem_of_mem_take hq);have h3:sizC q.chn=q.key.2.2.length+q.value.2.2.length+16:=rfl;omega)
  rw[List.length_map,List.length_take] at h1;omega
 clear h hb;go_enter Tryz.func74, Tryz.ntmps74;go_wp2_with fail;go_loopw [4] (fun iv wr=> ∃ i:Nat,i<=ps.length/\iv = .int .i64 (i:Int)/\Hid ((∀ j (h:j<ps.length),j<i->badK ps[j].chn=false)/\Chg No w wr)) (fun iv _=>ps.length - (intOf iv).toNat)
 case atStart=>exact⟨0,by omega,rfl,(fun j _ h=>by omega),Chg.refl _ _⟩
 case round=>
  obtain⟨i,hi,rfl,HD⟩:=hrel;by_cases hlt:i<ps.length
  .obtain⟨lb,lo,rfl,hq⟩:=pus_at (HL.o.new HD.o.2) (by omega);obtain⟨y0,_,_⟩:=hq i hlt;have hbi:=HB.o _ (List.getElem_mem hlt);have hii:(i:Int)<ps.length:=by omega
   obtain⟨q,hqe⟩: ∃ q,q=ps[i]:=⟨_,rfl⟩;have HQ:=ah hqe;rw[<-hqe] at y0 hbi;clear hq hqe;obtain⟨⟨kA,kc,kl⟩,⟨vA,vc,vl⟩,dd⟩:=q;replace y0:_=some (Value.slice kA kl.length kc):=y0;replace hbi:kl.length<=1000000000/\vl.length<=1000000000:=hbi;obtain⟨hbk,hbv⟩:=hbi;have HBk:Hid (badK ps[i].chn=(decide (kl.length=0) || decide (128<kl.length))):=by rw[<-HQ.o];rfl
   by_cases hk:kl.length=0\/128<kl.length
   .have HE:Hid (chkB (ps.map Pu.chn)=100):=by
     unfold Hid chkB;rw[if_pos];refine List.any_eq_true.2 ⟨ps[i].chn,List.mem_map.2 ⟨ps[i],List.getElem_mem _,rfl⟩,?_⟩;rw[HBk.o];simpa using hk
    rcases hk with hk | hk
    .have hk0:(kl.length:Int)<1:=by omega
     clear hk;go_wp2_with fail;go_ret;exact⟨by rw[HE.o];rfl,HD.o.2⟩
    .have hk0:¬ (kl.length:Int)<1:=by omega
     have hk1:(128:Int)<kl.length:=by omega
     clear hk;go_wp2_with fail;go_ret;exact⟨by rw[HE.o];rfl,HD.o.2⟩
   .have hk0:¬ (kl.length:Int)<1:=by omega
    have hk1:¬ (128:Int)<kl.length:=by omega
    have HG:Hid (badK ps[i].chn=false):=by
     unfold Hid;rw[HBk.o,decide_eq_false (by omega),decide_eq_false (by omega)];rfl
    clear hk;go_wp2_with fail;go_roundw
    .refine⟨i+1,by omega,by push_cast;rfl,fun j h hj=>?_,HD.o.2⟩;by_cases e:j=i
     .subst e;exact HG.o
     .exact HD.o.1 j h (by omega)
    .simp[intOf];omega
  .have hie:i=ps.length:=by omega
   have HNo:Hid ((ps.map Pu.chn).any badK=false):=by
    unfold Hid;rw[List.any_eq_false];intro x hx;obtain⟨e,he,rfl⟩:=List.mem_map.1 hx;obtain⟨j,hj,rfl⟩:=List.getElem_of_mem he;rw[HD.o.1 j hj (by omega)];simp
   have HK:=ah HD.o.2;clear HD;have hie2:¬ (i:Int)<ps.length:=by omega
   clear hie hlt;go_wp2_with fail;go_loopw [3,5] (fun nv jv wx=> ∃ (j n:Nat),j<=ps.length/\jv = .int .i64 (j:Int)/\nv = .int .i64 (n:Int)/\Hid (n=(((ps.take j).map Pu.chn).map sizC).sum/\(∀ q (h:q<ps.length),q<j->badV ps[q].chn=false)/\Chg No w wx)) (fun _ jv _=>ps.length - (intOf jv).toNat)
   case atStart=>exact⟨0,0,by omega,rfl,rfl,rfl,(fun j _ h=>by omega),HK.o⟩
   case round=>
    obtain⟨j,n,hj,rfl,rfl,HD⟩:=hrel;have hnb:=HSum.o j hj;rw[<-HD.o.1] at hnb;by_cases hlt:j<ps.length
    .obtain⟨lb,lo,rfl,hq⟩:=pus_at (HL.o.new HD.o.2.2) (by omega);obtain⟨y0,y1,y2⟩:=hq j hlt;have hbi:=HB.o _ (List.getElem_mem hlt);have hii:(j:Int)<ps.length:=by omega
     have HNx:Hid ((((ps.take (j+1)).map Pu.chn).map sizC).sum=n+(ps[j].key.2.2.length+ps[j].value.2.2.length+16)):=by
      unfold Hid;rw[List.take_add_one,List.getElem?_eq_getElem hlt,List.map_append,List.map_append,List.sum_append, <-HD.o.1];rfl
     obtain⟨q,hqe⟩: ∃ q,q=ps[j]:=⟨_,rfl⟩;have HQ:=ah hqe;rw[<-hqe] at y0 y1 y2 hbi HNx;clear hq hqe;obtain⟨⟨kA,kc,kl⟩,⟨vA,vc,vl⟩,dd⟩:=q;replace y0:_=some (Value.slice kA kl.length kc):=y0;replace y1:_=some (Value.slice vA vl.length vc):=y1;replace y2:_=some (Value.bool dd):=y2;replace hbi:kl.length<=1000000000/\vl.length<=1000000000:=hbi;obtain⟨hbk,hbv⟩:=hbi;replace HNx:Hid ((((ps.take (j+1)).map Pu.chn).map sizC).sum=n+(kl.length+vl.length+16)):=HNx;have HBv:Hid (badV ps[j].chn=(decide (16384<vl.length) || (dd && decide (0<vl.length)))):=by rw[<-HQ.o];rfl
     have HE:Hid (badV ps[j].chn=true->chkB (ps.map Pu.chn)=101):=ah fun h0=>by
      unfold chkB;rw[HNo.o,if_neg (by simp),if_pos];exact List.any_eq_true.2 ⟨ps[j].chn,List.mem_map.2 ⟨ps[j],List.getElem_mem _,rfl⟩,h0⟩
     have w1:IntKind.i64.wrap ((n:Int)+kl.length)=(n:Int)+kl.length:=by rw[IntKind.wrap_i64];omega
     have w2:IntKind.i64.wrap ((n:Int)+kl.length+vl.length)=(n:Int)+kl.length+vl.length:=by rw[IntKind.wrap_i64];omega
     have w3:IntKind.i64.wrap ((n:Int)+kl.length+vl.length+16)=(n:Int)+kl.length+vl.length+16:=by rw[IntKind.wrap_i64];omega
     have HG0:Hid (Chg No w wr.drew/\(wr.drew.cell? ⟨lb,lo+j*3,none⟩=some (.slice kA kl.length kc)/\wr.drew.cell? ⟨lb,lo+j*3+1,none⟩=some (.slice vA vl.length vc))):=ah ⟨HD.o.2.2.drew,y0,y1⟩;have HLs:Hid (badV ps[j].chn=false-> ∀ q (h:q<ps.length),q<j+1->badV ps[q].chn=false):=ah fun h0 q h hq=>by
      by_cases e:q=j
      .subst e;exact h0
      .exact HD.o.2.1 q h (by omega)
     have HK2:=ah HD.o.2.2;clear hnb HD;by_cases h1:(16384:Int)<vl.length
     .have HE1:Hid (chkB (ps.map Pu.chn)=101):=ah (HE.o (by rw[HBv.o,decide_eq_true (by omega)];rfl));go_wp2_with fail;go_ret;exact⟨by rw[HE1.o];rfl,HK2.o⟩
     .cases dd with
      | true=>
       by_cases h2:(0:Int)<vl.length
       .have HE1:Hid (chkB (ps.map Pu.chn)=101):=ah (HE.o (by rw[HBv.o,decide_eq_true (p:=0<vl.length) (by omega)];simp));have h3:0<vl.length:=by omega
        go_wp2_with fail;go_ret;exact⟨by rw[HE1.o];rfl,HK2.o⟩
       .have HF:Hid (badV ps[j].chn=false):=ah (by rw[HBv.o,decide_eq_false (by omega),decide_eq_false (by omega)];rfl);have h3:¬ 0<vl.length:=by omega
        go_upto_region 12 with fail;refine wp_region_held_drew (S:=fun w'=>Chg No w w'/\(w'.cell? ⟨lb,lo+j*3,none⟩=some (.slice kA kl.length kc)/\w'.cell? ⟨lb,lo+j*3+1,none⟩=some (.slice vA vl.length vc))) (by kernel_rfl) HG0.o ?_;intro hS0;refine rtk 0 ?_;refine rtk 1 ?_;refine rtk 2 ?_;refine rtk 3 ?_;refine rtk 4 ?_;refine rtk 5 ?_;refine rtk 6 ?_;refine rtk 7 ?_;refine rtk 8 ?_;refine rtk 9 ?_;refine rtk 10 ?_;refine rtk 11 ?_;refine rtk 12 ?_;refine rtk 13 ?_;refine rtk 14 ?_;refine rtk 15 ?_;refine rtk 16 ?_;refine wpAnyH_done (by kernel_rfl) ?_ _;have HT:=ah HG0.o.1;have HLt:=ah (HLs.o HF.o);clear HG0;go_wp2_with fail;go_roundw
        .exact⟨j+1,n+(kl.length+vl.length+16),by omega,by push_cast;rfl,by congr 1;push_cast;omega,HNx.o.symm,HLt.o,HT.o⟩
        .simp[intOf];omega
      | false=>
       have HF:Hid (badV ps[j].chn=false):=ah (by rw[HBv.o,decide_eq_false (by omega)];rfl);go_upto_region 12 with fail;refine wp_region_held_drew (S:=fun w'=>Chg No w w'/\(w'.cell? ⟨lb,lo+j*3,none⟩=some (.slice kA kl.length kc)/\w'.cell? ⟨lb,lo+j*3+1,none⟩=some (.slice vA vl.length vc))) (by kernel_rfl) HG0.o ?_;intro hS0;refine rtk 0 ?_;refine rtk 1 ?_;refine rtk 2 ?_;refine rtk 3 ?_;refine rtk 4 ?_;refine rtk 5 ?_;refine rtk 6 ?_;refine rtk 7 ?_;refine rtk 8 ?_;refine rtk 9 ?_;refine rtk 10 ?_;refine rtk 11 ?_;refine rtk 12 ?_;refine rtk 13 ?_;refine rtk 14 ?_;refine rtk 15 ?_;refine rtk 16 ?_;refine wpAnyH_done (by kernel_rfl) ?_ _;have HT:=ah HG0.o.1;have HLt:=ah (HLs.o HF.o);clear HG0;go_wp2_with fail;go_roundw
       .exact⟨j+1,n+(kl.length+vl.length+16),by omega,by push_cast;rfl,by congr 1;push_cast;omega,HNx.o.symm,HLt.o,HT.o⟩
       .simp[intOf];omega
    .have hje:j=ps.length:=by omega
     subst hje;have HN:Hid (n=((ps.map Pu.chn).map sizC).sum):=by have:=HD.o.1;rw[List.take_length] at this;exact this
     have HNv:Hid ((ps.map Pu.chn).any badV=false):=by
      unfold Hid;rw[List.any_eq_false];intro x hx;obtain⟨e,he,rfl⟩:=List.mem_map.1 hx;obtain⟨j,hj,rfl⟩:=List.getElem_of_mem he;rw[HD.o.2.1 j hj (by omega)];simp
     have HE:Hid (chkB (ps.map Pu.chn)=if 262144<n then 102 else 0):=by
      unfold Hid chkB;rw[HNo.o,HNv.o, <-HN.o];rfl
     have HK:=ah HD.o.2.2;clear HN HNo HNv HD hie2 hi;by_cases hl:262144<n
     .have hl2:(262144:Int)<n:=by omega
      replace HE:Hid (chkB (ps.map Pu.chn)=102):=by unfold Hid;rw[HE.o,if_pos hl]
      clear hl;go_wp2_with fail;go_ret;exact⟨by rw[HE.o];rfl,HK.o⟩
     .have hl2:¬ (262144:Int)<n:=by omega
      replace HE:Hid (chkB (ps.map Pu.chn)=0):=by unfold Hid;rw[HE.o,if_neg hl]
      clear hl;go_wp2_with fail;go_ret;exact⟨by rw[HE.o];rfl,HK.o⟩
end
def MpL:List Value->List (List Kv)->SP
 | v::vs,M::Ms=>MpP v M*MpL vs Ms
 | _,_=>Emp
def RdbC (g:Nat) (v vo vg:Value) (M:List Kv) (vs:List Value) (Ms:List (List Kv)) (gs:List Bool):SP:=Pt g 36 #[v,vo,vg]*(Row 32 1 vo vs.length vs*(Row 4 1 vg gs.length (gs.map Value.bool)*(MpP v M*MpL vs Ms)))
def RdbP (g:Nat) (M:List Kv) (Ms:List (List Kv)) (gs:List Bool):SP:=fun h=> ∃ v vo vg vs,(vs.length=Ms.length/\gs.length=Ms.length)/\RdbC g v vo vg M vs Ms gs h
section
variable {w0 w w':World} {F:SP} {g:Nat} {v vo vg:Value} {M:List Kv} {vs:List Value} {Ms:List (List Kv)} {gs:List Bool}
theorem Sat.rdb (h:Sat w0 (RdbP g M Ms gs*F) w): ∃ v vo vg vs,(vs.length=Ms.length/\gs.length=Ms.length)/\Sat w0 (RdbC g v vo vg M vs Ms gs*F) w:=by
 obtain⟨c,x,h1,a,k,h2,h3,⟨v,vo,vg,vs,h4,h5⟩,h8⟩:=h;exact⟨v,vo,vg,vs,h4,⟨c,x,h1,a,k,h2,h3,h5,h8⟩⟩
theorem Sat.rdbI (h:Sat w0 (RdbC g v vo vg M vs Ms gs*F) w) (hv:vs.length=Ms.length) (hg:gs.length=Ms.length):Sat w0 (RdbP g M Ms gs*F) w:=by
 obtain⟨c,x,h1,a,k,h2,h3,h5,h8⟩:=h;exact⟨c,x,h1,a,k,h2,h3,⟨v,vo,vg,vs,⟨hv,hg⟩,h5⟩,h8⟩
theorem rdb_d (g:Nat) (v vo vg:Value) (M:List Kv) (vs:List Value) (Ms:List (List Kv)) (gs:List Bool) (F:SP):RdbC g v vo vg M vs Ms gs*F=Pt g 36 #[v,vo,vg]*(Row 32 1 vo vs.length vs*(Row 4 1 vg gs.length (gs.map Value.bool)*(MpP v M*(MpL vs Ms*F)))):=by unfold RdbC;ac_rfl
theorem Sat.rdb_new (h:Sat w0 F w):Sat w0 (RdbP w.heap.size [] [] []*F) (w.alloc (.cells #[.slice none 0 0,.slice none 0 0,.slice none 0 0] 36)):=by
 have h1:=h.allocPt 36 #[.slice none 0 0,.slice none 0 0,.slice none 0 0];generalize w.alloc _=W at*
 have h2:=((h1.mp_nil.row_nil 4 1).row_nil 32 1);refine Sat.rdbI (vs:=[]) (Ms:=[]) (gs:=[]) (v:= .slice none 0 0) (vo:= .slice none 0 0) (vg:= .slice none 0 0) ?_ rfl rfl;rw[rdb_d];have h3:=h2.of (show _=Pt w.heap.size 36 #[.slice none 0 0,.slice none 0 0,.slice none 0 0]*(Row 32 1 (.slice none 0 0) 0 []*(Row 4 1 (.slice none 0 0) 0 []*(MpP (.slice none 0 0) []*F))) by ac_rfl);exact h3.of (by show _=_*(_*(_*(_*(Emp*F))));rw[emp_star];rfl)
theorem putsM_len: ∀ (cs:List Chn) (M:List Kv),(putsM cs M).length<=M.length+cs.length
 | [],M=>Nat.le_refl _
 | c::cs,M=>by
  have h1:=putsM_len cs (putM c M);have h2:=putM_len c M;show (putsM cs (putM c M)).length<=_;rw[List.length_cons];omega
theorem putsM_take {cs:List Chn} {M:List Kv} {i:Nat} (hi:i<cs.length):putsM (cs.take (i+1)) M=putM cs[i] (putsM (cs.take i) M):=by
 unfold putsM;rw[List.take_add_one,List.getElem?_eq_getElem hi,List.foldl_append];rfl
theorem rwrite_any (A:Option Addr) (c:Nat) (ps:List Pu) (h:Sat w0 (RdbP g M Ms gs*F) w) (hb: ∀ W,Sat w0 F W->RdV W A (ps.flatMap puC)/\PusR W ps) (hl:M.length+ps.length<=10000) (hz: ∀ p ∈ ps,p.key.2.2.length<=1000000/\p.value.2.2.length<=1000000):
  Calls Tryz.prog 22 #[.pointer (some ⟨g,0,none⟩),.slice A ps.length c] w fun x w'=>x = .returned (.int .i64 (chkB (ps.map Pu.chn):Nat))/\Sat w0 (RdbP g (if chkB (ps.map Pu.chn)=0 then putsM (ps.map Pu.chn) M else M) Ms gs*F) w':=by
 obtain⟨v,vo,vg,vs,⟨hv,hg⟩,h1⟩:=h.rdb;have HV:=ah (And.intro hv hg);have h2:=h1.of (rdb_d ..);have HF:Hid (∀ W V N,Sat w0 (Pt g 36 #[V,vo,vg]*(MpP V N*(Row 32 1 vo vs.length vs*(Row 4 1 vg gs.length (gs.map Value.bool)*(MpL vs Ms*F))))) W->Sat w0 (RdbP g N Ms gs*F) W):=ah fun W V N hW=>by
  refine Sat.rdbI (v:=V) (vo:=vo) (vg:=vg) (vs:=vs) ?_ hv hg;rw[rdb_d];exact hW.of (by ac_rfl)
 obtain⟨G,hG⟩: ∃ G,G=Row 32 1 vo vs.length vs*(Row 4 1 vg gs.length (gs.map Value.bool)*(MpL vs Ms*F)):=⟨_,rfl⟩;have HB:Hid (∀ W,Sat w0 G W->RdV W A (ps.flatMap puC)/\PusR W ps):=ah fun W hW=>by
  rw[hG] at hW;exact hb W hW.right.right.right
 have HS:Hid (Sat w0 (Pt g 36 #[v,vo,vg]*(MpP v M*G)) w):=ah (h2.of (by rw[hG];ac_rfl));rw[<-hG] at HF;have HZ:=ah hz;have HC:Hid (∀ W,Chg No w W->Calls Tryz.prog 74 #[.slice A ps.length c] W fun x w'=>x = .returned (.int .i64 (chkB (ps.map Pu.chn):Nat))/\Chg No W w'):=ah fun W k=>rcheck_any A c ps W (HB.o _ (HS.o.new k).right.right).1 (by omega) (fun p hp=>⟨by have:=(hz p hp).1;omega,by have:=(hz p hp).2;omega⟩)
 clear h h1 h2 hb hz hv hg hG;obtain⟨q,hq⟩: ∃ q,q=chkB (ps.map Pu.chn):=⟨_,rfl⟩;rw[<-hq] at HC ⊢;have HQ:=ah hq;clear hq;go_enter Tryz.func22, Tryz.ntmps22;by_cases hq0:q=0
 .have hqi:((q:Int) !=0)=false:=by rw[hq0];rfl
  have HQ0:=ah hq0;clear hq0;go_wp2_with (go_at_call 74;(with_reducible refine(HC.o _ (Chg.refl _ _)).mono ?_);rintro x w1 ⟨rfl,k1⟩;have HS1:=ah (HS.o.new k1);clear k1);go_loopw [6] (fun iv wr=> ∃ (i:Nat),i<=ps.length/\iv = .int .i64 (i:Int)/\Hid (∃ V,Sat w0 (Pt g 36 #[V,vo,vg]*(MpP V (putsM ((ps.map Pu.chn).take i) M)*G)) wr)) (fun iv _=>ps.length - (intOf iv).toNat)
  case atStart=>exact⟨0,by omega,rfl,v,HS1.o⟩
  case round=>
   obtain⟨i,hi,rfl,HD⟩:=hrel;by_cases hlt:i<ps.length
   .have hii:(i:Int)<ps.length:=by omega
    obtain⟨V,hs⟩:=HD.o;have hsr:=hs.drew;obtain⟨lb,lo,rfl,hq⟩:=pus_at (HB.o _ hsr.right.right).1 (by omega);have HX:Hid (∀ W,Sat w0 G W->W.cell? ⟨lb,lo+i*3,none⟩=some (slv' ps[i].key)/\W.cell? ⟨lb,lo+i*3+1,none⟩=some (slv' ps[i].value)/\W.cell? ⟨lb,lo+i*3+2,none⟩=some (.bool ps[i].dead)):=ah fun W hW=>by
     obtain⟨b',o',e,hq⟩:=pus_at (HB.o _ hW).1 (by omega);injection e with e
     injection e with e1 e2
     subst e1;subst e2;exact hq i hlt
    have HPi:Hid (∀ W,Sat w0 G W->PuR W ps[i]):=ah fun W hW=>(HB.o W hW).2 _ (List.getElem_mem hlt)
    have HZi:=ah (HZ.o _ (List.getElem_mem hlt));have HN:Hid (putsM ((ps.map Pu.chn).take (i+1)) M=putM ps[i].chn (putsM ((ps.map Pu.chn).take i) M)):=ah (by
     rw[putsM_take (by rw[List.length_map];exact hlt),List.getElem_map])
    have HLn:Hid ((putsM ((ps.map Pu.chn).take i) M).length<=10000):=ah (by
     have h1:=putsM_len ((ps.map Pu.chn).take i) M;rw[List.length_take,List.length_map] at h1;omega)
    generalize ps[i]=p at*
    have HSr:=ah hsr;clear hq hs hsr;go_upto_region 7 with fail;obtain⟨⟨kA,kc,kl⟩,⟨vA,vc,vl⟩,dd⟩:=p;have HY:Hid (∀ W,Sat w0 G W->W.cell? ⟨lb,lo+i*3,none⟩=some (.slice kA kl.length kc)/\W.cell? ⟨lb,lo+i*3+1,none⟩=some (.slice vA vl.length vc)/\W.cell? ⟨lb,lo+i*3+2,none⟩=some (.bool dd)):=HX;have HPut:Hid (Calls Tryz.prog 75 #[.pointer (some ⟨g,0,none⟩),.agg #[.slice kA kl.length kc,.slice vA vl.length vc,.bool dd]] wr.drew fun e w'=>e = .returned (.tuple #[])/\ ∃ V',Sat w0 (Pt g 36 #[V',vo,vg]*(MpP V' (putM ⟨kl,vl,dd⟩ (putsM ((ps.map Pu.chn).take i) M))*G)) w'):=ah ((rmput_any g 36 #[V,vo,vg] V _ ⟨(kA,kc,kl),(vA,vc,vl),dd⟩ rfl HSr.o HLn.o HPi.o HZi.o).mono (by
     rintro e w' ⟨rfl,V',hs⟩;exact⟨rfl,V',hs⟩))
    clear HX HPi HZi;refine wp_region_held_drew (S:=fun w'=>w'.cell? ⟨lb,lo+i*3,none⟩=some (.slice kA kl.length kc)/\w'.cell? ⟨lb,lo+i*3+1,none⟩=some (.slice vA vl.length vc)/\w'.cell? ⟨lb,lo+i*3+2,none⟩=some (.bool dd)) (by kernel_rfl) (HY.o _ HSr.o.right.right) ?_;intro hS0;refine rtk 0 ?_;refine rtk 1 ?_;refine rtk 2 ?_;refine rtk 3 ?_;refine rtk 4 ?_;refine rtk 5 ?_;refine rtk 6 ?_;refine rck 7 fun K hK=>?_
    go_simp;go_at_call 75;(with_reducible refine HPut.o.mono ?_);rintro x w7 ⟨rfl,V7,hs7⟩;have HS7:=ah hs7;clear hs7
    refine hK.out _ _ (HY.o _ HS7.o.right.right) (fun hS0=>?_);clear hK K;refine wpAnyH_done (by kernel_rfl) ?_ _;go_wp2_with fail;go_roundw
    .exact⟨i+1,by omega,by push_cast;rfl,V7,by rw[HN.o];exact HS7.o⟩
    .simp[intOf];omega
   .have hie:i=ps.length:=by omega
    have HT:Hid (∃ V,Sat w0 (Pt g 36 #[V,vo,vg]*(MpP V (putsM (ps.map Pu.chn) M)*G)) wr):=ah (by
     have h1:=HD.o;rw[hie,List.take_of_length_le (by rw[List.length_map];exact Nat.le_refl _)] at h1;exact h1)
    have hii:¬ (i:Int)<ps.length:=by omega
    clear hlt hie;go_wp2_with fail;go_ret;refine⟨rfl,?_⟩
    try rw[if_pos HQ0.o]
    obtain⟨V,hs⟩:=HT.o;exact HF.o _ _ _ hs
 .have hqi:((q:Int) !=0)=true:=by rw[bne_iff_ne];omega
  go_wp2_with (go_at_call 74;(with_reducible refine(HC.o _ (Chg.refl _ _)).mono ?_);rintro x w1 ⟨rfl,k1⟩;have HS1:=ah (HS.o.new k1);clear k1);go_ret;refine⟨rfl,?_⟩
  try rw[if_neg hq0]
  exact HF.o _ _ _ HS1.o
end
theorem sizM_cons (p:Kv) (M:List Kv):sizM (p::M)=p.1.length+p.2.length+40+sizM M:=rfl
theorem sizM_app (A B:List Kv):sizM (A++B)=sizM A+sizM B:=by unfold sizM;rw[List.map_append,List.sum_append]
theorem sizM_drop (M:List Kv) (i:Nat):sizM (M.drop i)<=sizM M:=by
 have h:sizM M=sizM (M.take i)+sizM (M.drop i):=by rw[<-sizM_app,List.take_append_drop]
 omega
theorem dropK_ge (k:List UInt8) (M:List Kv):atK k M<=dropK k M:=by
 unfold dropK;split
 .split<;>omega
 .omega
theorem sizM_put (c:Chn) (M:List Kv):sizM (putM c M)<=sizM M+c.key.length+c.value.length+40:=by
 rw[putM_at,sizM_app,sizM_app];have h1:sizM M=sizM (M.take (atK c.key M))+sizM (M.drop (atK c.key M)):=by rw[<-sizM_app,List.take_append_drop]
 have h2:sizM (M.drop (dropK c.key M))<=sizM (M.drop (atK c.key M)):=by
  have h3:=sizM_drop (M.drop (atK c.key M)) (dropK c.key M - atK c.key M);have h4:=dropK_ge c.key M;rw[List.drop_drop] at h3;rwa [show atK c.key M+(dropK c.key M - atK c.key M)=dropK c.key M by omega] at h3
 have h5:sizM (if c.dead=true then [] else [(c.key,c.value)])<=c.key.length+c.value.length+40:=by
  split
  .exact Nat.zero_le _
  .exact Nat.le_refl _
 omega
section
variable {w0 w w':World} {F F' A B:SP} {b d n t k a nx g:Nat} {M N:List Kv} {olds:Int->Option (List Kv)} {Ms:List (List Kv)} {gs:List Bool} {v:Value}
theorem Sat.one2 (h:Sat w0 (A*(B*F)) w):Sat w0 (A*F) w:=h.up2.right
theorem Sat.rdb_open (h:Sat w0 (RdbP g N Ms gs*F) w): ∃ LA lc vo vg es R,pairsE es=N/\Sat w0 (Pt g 36 #[.slice LA es.length lc,vo,vg]*(MpC (.slice LA es.length lc) es*(R*F))) w/\ ∀ A w',Sat w0 (Pt g 36 #[.slice LA es.length lc,vo,vg]*(MpC (.slice LA es.length lc) es*(R*A))) w'->Sat w0 (RdbP g N Ms gs*A) w':=by
 obtain⟨v,vo,vg,vs,⟨hv,hg⟩,h1⟩:=h.rdb;have h2:=(h1.of (rdb_d ..)).of (show _=MpP v N*(Pt g 36 #[v,vo,vg]*((Row 32 1 vo vs.length vs*(Row 4 1 vg gs.length (gs.map Value.bool)*MpL vs Ms))*F)) by ac_rfl);obtain⟨es,he,h3⟩:=h2.mp;obtain⟨LA,lc,rfl,_⟩:=h3.mpc_v;refine⟨LA,lc,vo,vg,es,Row 32 1 vo vs.length vs*(Row 4 1 vg gs.length (gs.map Value.bool)*MpL vs Ms),he,h3.up2,fun A w' hw=>?_⟩;refine Sat.rdbI (v:= .slice LA es.length lc) (vo:=vo) (vg:=vg) (vs:=vs) ?_ hv hg;rw[rdb_d];exact(hw.up2.mpI he).of (by ac_rfl)
theorem mpc_tol {LA:Option Addr} {lc:Nat} {es:List En}:TolF (MpC (.slice LA es.length lc) es*F) LA es:=fun w0 w hs=>⟨hs.mpc_rd,hs.mpc_ens⟩
theorem rwrite1 (p:Pu) (gl:Nat) (h:Sat w0 (RdbP g N Ms gs*(Ow gl (.cells #[slv' p.key,slv' p.value,.bool p.dead] 43)*F)) w) (hp: ∀ W,Sat w0 F W->PuR W p) (hl:N.length<=9000) (hz:p.key.2.2.length<=1000000/\p.value.2.2.length<=1000000):
  Calls Tryz.prog 22 #[.pointer (some ⟨g,0,none⟩),.slice (some ⟨gl,0,none⟩) 1 1] w fun x w'=>x = .returned (.int .i64 (chkB [p.chn]:Nat))/\Sat w0 (RdbP g (if chkB [p.chn]=0 then putM p.chn N else N) Ms gs*F) w':=by
 refine(rwrite_any (some ⟨gl,0,none⟩) 1 [p] h (fun W hW=>⟨?_,fun q hq=>?_⟩) (by show N.length+1<=10000;omega) (fun q hq=>?_)).mono ?_
 .have h9:=lit_fi (xs:=puC p) hW rfl;rw[List.flatMap_cons,List.flatMap_nil,List.append_nil];exact h9
 .rw[List.mem_singleton] at hq;subst hq;exact hp W hW.right
 .rw[List.mem_singleton] at hq;subst hq;exact hz
 .rintro x w' ⟨rfl,h6⟩;exact⟨rfl,h6.one2⟩
def WrR (n:Nat) (cs:List Chn) (M:List Kv) (er:Int) (M':List Kv):Prop:=
 (chkB cs≠0/\er=(chkB cs:Nat)/\M'=M)\/(chkB cs=0/\fullB n (putsM cs M) cs=true/\er=103/\M'=M)\/(chkB cs=0/\fullB n (putsM cs M) cs=false/\er=0/\M'=putsM cs M)
theorem swriteF (Ad:Option Addr) (c:Nat) (ps:List Pu) (hk:k<=10000) (ht:t+ps.length<=1024) (h:Sto w0 F b d n t k 0 nx M olds w)
  (hb: ∀ W,Sat w0 F W->RdV W Ad (ps.flatMap puC)/\PusR W ps) (hz: ∀ p ∈ ps,p.key.2.2.length<=1000000000/\p.value.2.2.length<=1000000000):
  Calls Tryz.prog 20 #[.pointer (some ⟨b,0,none⟩),.slice Ad ps.length c] w fun x w'=> ∃ (er:Int) (M':List Kv),x = .returned (.int .i64 er)/\WrR n (ps.map Pu.chn) M er M'/\Sto w0 F b d n (t+ps.length) (k+1) 0 nx M' olds w':=by
 obtain⟨s,S,v,D,h1,h2,h3,h4⟩:=h;refine(write_st b d s v n t k D S M olds Ad c ps h1 hk ht (by omega) h4 hb hz).mono ?_;rintro x w' (⟨e1,g1,g2⟩ | ⟨e1,e2,g1,g2⟩ | ⟨e1,e2,rfl,S',D',v',g3,g4,g5,g6,g7,g8⟩ | ⟨_,_,_,g1,_⟩)
 .exact⟨_,M,g1,.inl ⟨e1,rfl,rfl⟩,Sto.mono (show Sto w0 F b d n t k 0 nx M olds w' from ⟨s,S,v,D,h1,h2,h3,g2⟩) (by omega) (by omega)⟩
 .exact⟨_,M,g1,.inr (.inl ⟨e1,e2,rfl,rfl⟩),Sto.mono (show Sto w0 F b d n t k 0 nx M olds w' from ⟨s,S,v,D,h1,h2,h3,g2⟩) (by omega) (by omega)⟩
 .rw[List.length_map] at g3;exact⟨0,_,rfl,.inr (.inr ⟨e1,e2,rfl,rfl⟩),s,S',v',D',g3,by omega,by omega,g8⟩
 .omega
theorem swriteF1 (p:Pu) (gl:Nat) (hk:k<=10000) (ht:t+1<=1024) (h:Sto w0 (Ow gl (.cells #[slv' p.key,slv' p.value,.bool p.dead] 43)*F) b d n t k 0 nx M olds w) (hp: ∀ W,Sat w0 F W->PuR W p) (hz:p.key.2.2.length<=1000000000/\p.value.2.2.length<=1000000000):
  Calls Tryz.prog 20 #[.pointer (some ⟨b,0,none⟩),.slice (some ⟨gl,0,none⟩) 1 1] w fun x w'=> ∃ (er:Int) (M':List Kv),x = .returned (.int .i64 er)/\WrR n [p.chn] M er M'/\Sto w0 F b d n (t+1) (k+1) 0 nx M' olds w':=by
 refine(swriteF (some ⟨gl,0,none⟩) 1 [p] hk ht h (fun W hW=>⟨?_,fun q hq=>?_⟩) (fun q hq=>?_)).mono ?_
 .have h9:=lit_fi (xs:=puC p) hW rfl;rw[List.flatMap_cons,List.flatMap_nil,List.append_nil];exact h9
 .rw[List.mem_singleton] at hq;subst hq;exact hp W hW.right
 .rw[List.mem_singleton] at hq;subst hq;exact hz
 .rintro x w' ⟨er,M',rfl,hr,h6⟩;exact⟨er,M',rfl,hr,h6.drop⟩
end
def wrE (cs:List Chn):Int:=(chkB cs:Nat)
def wrM (cs:List Chn) (M:List Kv):List Kv:=if chkB cs=0 then putsM cs M else M
theorem WrR.of {n:Nat} {cs:List Chn} {M M':List Kv} {er:Int} (h:WrR n cs M er M') (hf:chkB cs=0->fullB n (putsM cs M) cs=false):er=wrE cs/\M'=wrM cs M:=by
 unfold wrE wrM;rcases h with ⟨h1,rfl,rfl⟩ | ⟨h1,h2,_⟩ | ⟨h1,_,rfl,rfl⟩
 .exact⟨rfl,by rw[if_neg h1]⟩
 .rw[hf h1] at h2;cases h2
 .exact⟨by rw[h1];rfl,by rw[if_pos h1]⟩
def Crd (w0:World) (F:SP) (d n t k:Nat) (Ms:List (List Kv)) (off:Bool) (w:World):Prop:=
 ∃ D,D.cells.length=n/\64<=n/\n<=65536/\D.off=off/\CrsI n t k D Ms/\Sat w0 (Disk d D*F) w
def Fnd (w0:World) (F:SP) (d n t k a:Nat) (Ms:List (List Kv)) (w:World):Prop:=
 ∃ D S,openX D=(some S,0)/\FndI n t k D S Ms/\D.armed=a/\Sat w0 (Disk d D*F) w
section
variable {w0 w w':World} {F F':SP} {b d n t k a nx:Nat} {M:List Kv} {olds:Int->Option (List Kv)} {Ms:List (List Kv)} {off:Bool}
theorem fopen (ht:t<=1024) (hk:k<=10000) (ha:a<=9223372036854775807) (h:Fnd w0 F d n t k a Ms w):
  Calls Tryz.prog 19 #[.pointer (some ⟨d,0,none⟩)] w fun x w'=> ∃ M ∈ Ms,(∃ b,x = .returned (.tuple #[.pointer (some ⟨b,0,none⟩),.int .i64 0])/\Sto w0 F b d n t (k+1) a 1 M (fun _=>none) w')\/(a≠0/\x = .returned (.tuple #[.pointer none,.int .i64 21])/\Crd w0 F d n t (k+1) [M] true w'):=by
 obtain⟨D,S,h1,h2,h3,h4⟩:=h;subst h3;refine(open_find d n t k D h2 h1 ht hk ha h4).mono ?_;rintro x w' ⟨M',hM,⟨b',s',S2,D2,v2,rfl,g1,g2,g3,g4,g5⟩ | ⟨rfl,g1,D',g2,g3,g4,g5⟩⟩
 .exact⟨M',hM,.inl ⟨b',rfl,s',S2,v2,D2,g1,g2,g4,g5⟩⟩
 .exact⟨M',hM,.inr ⟨g1,rfl,D',g3,h2.len.2.1,h2.len.2.2.1,g2,g4,g5⟩⟩
theorem fopen0 (ht:t<=1024) (hk:k<=10000) (h:Fnd w0 F d n t k 0 Ms w):
  Calls Tryz.prog 19 #[.pointer (some ⟨d,0,none⟩)] w fun x w'=> ∃ M ∈ Ms, ∃ b,x = .returned (.tuple #[.pointer (some ⟨b,0,none⟩),.int .i64 0])/\Sto w0 F b d n t (k+1) 0 1 M (fun _=>none) w':=by
 refine(fopen ht hk (by omega) h).mono ?_;rintro x w' ⟨M',hM,h1 | ⟨h1,_⟩⟩
 .exact⟨M',hM,h1⟩
 .exact absurd rfl h1
end
def StoS (b d n t k a nx:Nat) (M:List Kv) (olds:Int->Option (List Kv)):SP:=fun h=> ∃ s S v D,(StI n t k D S v M olds/\D.armed<=a/\v.next=nx)/\(DbP b d s v*(SpaceP s d S*Disk d D)) h
def FndS (d n t k:Nat) (M:List Kv):SP:=fun h=> ∃ D S,(openX D=(some S,0)/\FndI n t k D S [M]/\D.armed=0)/\Disk d D h
def SmlT (M:List Kv):Prop:= ∀ p ∈ M,p.1.length<=130/\p.2.length<=300
theorem smlT_siz: ∀ {M:List Kv},SmlT M->sizM M<=M.length*470
 | [],_=>Nat.le_refl _
 | p::M,h=>by
  have h1:=smlT_siz (M:=M) fun q hq=>h q (List.mem_cons_of_mem _ hq)
  have h2:=h p List.mem_cons_self;rw[sizM_cons,List.length_cons];omega
theorem smlT_put {c:Chn} {M:List Kv} (h:SmlT M) (hc:c.key.length<=130/\c.value.length<=300):SmlT (putM c M):=fun p hp=>by
 rcases putM_mem hp with hp | rfl
 .exact h p hp
 .exact hc
theorem room_top {M:List Kv} {c:Chn} (hM:SmlT M) (hc:c.key.length<=130/\c.value.length<=300) (hl:M.length<=10):fullB 1024 (putsM [c] M) [c]=false:=by
 have h1:=sizM_put c M;have h2:=smlT_siz hM;have h3:(laiB [c]).length=4+c.key.length+c.value.length:=by
  rw[laiB_cons,List.length_append,lai1_len];rfl
 have e1:imgN 1024=70:=by decide
 have e2:logN 1024=441:=by decide
 have h4:putsM [c] M=putM c M:=rfl;unfold fullB;rw[Bool.or_eq_false_iff,decide_eq_false_iff_not,decide_eq_false_iff_not,h4,e1,e2,h3];refine⟨by omega,?_⟩;unfold needN;rw[if_pos (by omega)];omega
section
variable {w0 w w':World} {F F' A B:SP} {b d n t k a nx g b2 d2 t2 k2 a2 nx2:Nat} {M N:List Kv} {olds olds2:Int->Option (List Kv)}
theorem Sto.toS (h:Sto w0 F b d n t k a nx M olds w):Sat w0 (StoS b d n t k a nx M olds*F) w:=by
 obtain⟨s,S,v,D,h1,h2,h3,h4⟩:=h;have h5:=h4.of (show _=(DbP b d s v*(SpaceP s d S*Disk d D))*F by ac_rfl);obtain⟨c,x,g1,a',f,g2,g3,g4,g5⟩:=h5;exact⟨c,x,g1,a',f,g2,g3,⟨s,S,v,D,⟨h1,h2,h3⟩,g4⟩,g5⟩
theorem Sat.toSto (h:Sat w0 (StoS b d n t k a nx M olds*F) w):Sto w0 F b d n t k a nx M olds w:=by
 obtain⟨c,x,g1,a',f,g2,g3,⟨s,S,v,D,⟨h1,h2,h3⟩,g4⟩,g5⟩:=h;exact⟨s,S,v,D,h1,h2,h3,(show Sat w0 ((DbP b d s v*(SpaceP s d S*Disk d D))*F) w from ⟨c,x,g1,a',f,g2,g3,g4,g5⟩).of (by ac_rfl)⟩
theorem Sat.toFnd (h:Sat w0 (FndS d n t k M*F) w):Fnd w0 F d n t k 0 [M] w:=by
 obtain⟨c,x,g1,a',f,g2,g3,⟨D,S,⟨h1,h2,h3⟩,g4⟩,g5⟩:=h;exact⟨D,S,h1,h2,h3,⟨c,x,g1,a',f,g2,g3,g4,g5⟩⟩
theorem Sat.fndI {D:Dk} {S:Spc} (h1:openX D=(some S,0)) (h2:FndI n t k D S [M]) (h3:D.armed=0) (h:Sat w0 (Disk d D*F) w):Sat w0 (FndS d n t k M*F) w:=by
 obtain⟨c,x,g1,a',f,g2,g3,g4,g5⟩:=h;exact⟨c,x,g1,a',f,g2,g3,⟨D,S,⟨h1,h2,h3⟩,g4⟩,g5⟩
theorem Sto.fnd (hk:k<=100000) (h:Sto w0 F b d n t k 0 nx M olds w):Sat w0 (FndS d n t (k+1) M*F) w:=by
 obtain⟨s,S,v,D,h1,h2,h3,h4⟩:=h;obtain⟨S',e1,e2⟩:=h1.again hk;exact Sat.fndI e1 e2 (by omega) h4.right.right
theorem Sto.swap (h:Sto w0 (StoS b2 d2 n t2 k2 a2 nx2 N olds2*F) b d n t k a nx M olds w):Sto w0 (StoS b d n t k a nx M olds*F) b2 d2 n t2 k2 a2 nx2 N olds2 w:=h.toS.up2.toSto
theorem tnew (h:Sat w0 F w):Calls Tryz.prog 16 #[.int .i64 1024] w fun e w'=> ∃ d,e = .returned (.tuple #[.pointer (some ⟨d,0,none⟩),.int .i64 0])/\Sat w0 (Disk d (Dk.new 1024)*F) w':=(new_any (1024:Int) w0 w F h).mono fun e w' h9=>by
 unfold NewD at h9;rw[if_pos (by omega)] at h9;exact h9
theorem tformat (h:Sat w0 (Disk d (Dk.new 1024)*F) w):Calls Tryz.prog 18 #[.pointer (some ⟨d,0,none⟩)] w fun e w'=>e = .returned (.int .i64 0)/\Sat w0 (FndS d 1024 0 0 []*F) w':=by
 refine(format_find d 1024 0 1 1 1 1 (Dk.new 1024) (beginD 1024) (fun _=>0) (by omega) rfl (by unfold Dk.new;simp) (formatX_new (by omega)) (begin_good (by omega) (by omega)) begin_len begin_armed (by show 0<=_;omega) ⟨Nat.zero_le _,Nat.zero_le _⟩ begin_cnt (by omega) (by omega) (by omega) h).mono ?_;rintro e w' ⟨rfl,D',S',h1,h2,h3,h4⟩;exact⟨rfl,Sat.fndI h1 h2 h3 h4⟩
theorem topen (ht:t<=1024) (hk:k<=10000) (h:Sat w0 (FndS d n t k M*F) w):
  Calls Tryz.prog 19 #[.pointer (some ⟨d,0,none⟩)] w fun x w'=> ∃ b,x = .returned (.tuple #[.pointer (some ⟨b,0,none⟩),.int .i64 0])/\Sto w0 F b d n t (k+1) 0 1 M (fun _=>none) w':=by
 refine(fopen0 ht hk h.toFnd).mono ?_;rintro x w' ⟨M',hM,b,rfl,h1⟩;rw[List.mem_singleton] at hM;subst hM;exact⟨b,rfl,h1⟩
theorem twrite (p:Pu) (gl:Nat) (hk:k<=10000) (ht:t+1<=1024) (h:Sto w0 (Ow gl (.cells #[slv' p.key,slv' p.value,.bool p.dead] 43)*F) b d 1024 t k 0 nx M olds w) (hp: ∀ W,Sat w0 F W->PuR W p) (hz:p.key.2.2.length<=130/\p.value.2.2.length<=300) (hM:SmlT M) (hl:M.length<=10):
  Calls Tryz.prog 20 #[.pointer (some ⟨b,0,none⟩),.slice (some ⟨gl,0,none⟩) 1 1] w fun x w'=>x = .returned (.int .i64 (wrE [p.chn]))/\Sto w0 F b d 1024 (t+1) (k+1) 0 nx (wrM [p.chn] M) olds w':=by
 refine(swriteF1 p gl hk ht h hp ⟨by omega,by omega⟩).mono ?_;rintro x w' ⟨er,M',rfl,hr,hs⟩;obtain⟨rfl,rfl⟩:=hr.of fun _=>room_top hM hz hl
 exact⟨rfl,hs⟩
theorem smlT_wr {p:Pu} (hz:p.key.2.2.length<=130/\p.value.2.2.length<=300) (h:SmlT M):SmlT (wrM [p.chn] M):=by
 unfold wrM;split
 .exact smlT_put h hz
 .exact h
theorem tcut_any (kA:Option Addr) (kc:Nat) (kl kl2:List UInt8) (vA:Option Addr) (vc:Nat) (vl vl2:List UInt8) (dd:Bool) (hk:kl2=kl.take 130) (hv:vl2=vl.take 300) (h1:kl.length<=kc) (h2:vl.length<=vc) (w:World):
  Calls Tryz.prog 21 #[.agg #[.slice kA kl.length kc,.slice vA vl.length vc,.bool dd]] w fun e w'=>e = .returned (.agg #[.slice kA kl2.length kc,.slice vA vl2.length vc,.bool dd])/\Chg No w w':=by
 have HS:Hid (Sat w (Pt (w.heap.size+1) 43 #[.slice none 0 0,.slice none 0 0,.bool false]*(Pt w.heap.size 43 #[.slice kA kl.length kc,.slice vA vl.length vc,.bool dd]*Emp)) ((w.alloc (.cells #[.slice kA kl.length kc,.slice vA vl.length vc,.bool dd] 43)).alloc (.cells #[.slice none 0 0,.slice none 0 0,.bool false] 43))):=ah (((Sat.start w).allocAt (b:=w.heap.size) 43 #[.slice kA kl.length kc,.slice vA vl.length vc,.bool dd] rfl).allocAt (b:=w.heap.size+1) 43 #[.slice none 0 0,.slice none 0 0,.bool false] (by simp));have HK:Hid (kl2.length=min 130 kl.length):=ah (by rw[hk,List.length_take]);have HV:Hid (vl2.length=min 300 vl.length):=ah (by rw[hv,List.length_take]);have HC:Hid (kl.length<=kc/\vl.length<=vc):=ah ⟨h1,h2⟩;clear hk hv h1 h2;go_enter Tryz.func21, Tryz.ntmps21;go_upto_region 1 with fail;revert HS;generalize (w.alloc _).alloc _=W;generalize w.heap.size+1=R;generalize w.heap.size=E;intro HS;by_cases hk:130<kl.length
 case' pos=>
  have hgt:(130:Int)<kl.length:=by omega
  have hcap:(130:Int)<=kc:=by have:=HC.o.1;omega
  have c0:=HS.o.up2.cell 0;have f0:=HS.o.up2.frozen 0;have hs:=HS.o.up2.set 0 (.slice kA 130 kc);have e:kl2.length=130:=by have:=HK.o;omega
  go_upto_region 3 with fail;clear c0 f0 hgt hcap;revert hs;generalize World.setCell W _ _=W2;intro hs;have HS2:Hid (Sat w (Pt E 43 #[.slice kA kl2.length kc,.slice vA vl.length vc,.bool dd]*(Pt R 43 #[.slice none 0 0,.slice none 0 0,.bool false]*Emp)) W2):=ah (by rw[e];exact hs);clear hs e HS hk HK
 case' neg=>
  have hgt:¬ (130:Int)<kl.length:=by omega
  have c0:=HS.o.up2.cell 0;have e:kl2.length=kl.length:=by have:=HK.o;omega
  go_upto_region 3 with fail;have HS2:Hid (Sat w (Pt E 43 #[.slice kA kl2.length kc,.slice vA vl.length vc,.bool dd]*(Pt R 43 #[.slice none 0 0,.slice none 0 0,.bool false]*Emp)) W):=ah (by rw[e];exact HS.o.up2);clear c0 hgt e HS hk HK;generalize W=W2 at*
 all_goals
  by_cases hv:300<vl.length
  case' pos=>
   have hgt:(300:Int)<vl.length:=by omega
   have hcap:(300:Int)<=vc:=by have:=HC.o.2;omega
   have c0:=HS2.o.cell 1;have f0:=HS2.o.frozen 1;have hs:=HS2.o.set 1 (.slice vA 300 vc);have e:vl2.length=300:=by have:=HV.o;omega
   go_upto_region 5 with fail;clear c0 f0 hgt hcap;revert hs;generalize World.setCell W2 _ _=W3;intro hs;have HS3:Hid (Sat w (Pt E 43 #[.slice kA kl2.length kc,.slice vA vl2.length vc,.bool dd]*(Pt R 43 #[.slice none 0 0,.slice none 0 0,.bool false]*Emp)) W3):=ah (by rw[e];exact hs);clear hs e HS2 hv HV
  case' neg=>
   have hgt:¬ (300:Int)<vl.length:=by omega
   have c0:=HS2.o.cell 1;have e:vl2.length=vl.length:=by have:=HV.o;omega
   go_upto_region 5 with fail;have HS3:Hid (Sat w (Pt E 43 #[.slice kA kl2.length kc,.slice vA vl2.length vc,.bool dd]*(Pt R 43 #[.slice none 0 0,.slice none 0 0,.bool false]*Emp)) W2):=ah (by rw[e];exact HS2.o);clear c0 hgt e HS2 hv HV;generalize W2=W3 at*
  all_goals
   have h5:=HS3.o;have c0:W3.cell? ⟨E,0,none⟩=some (.slice kA kl2.length kc):=h5.cell 0;have c1:W3.cell? ⟨E,1,none⟩=some (.slice vA vl2.length vc):=h5.cell 1;have c2:W3.cell? ⟨E,2,none⟩=some (.bool dd):=h5.cell 2;have d0:=h5.up2.frozen 0;have d1:=h5.up2.frozen 1;have d2:=h5.up2.frozen 2;have e0:W3.cell? ⟨R,0,none⟩=some (.slice none 0 0):=h5.up2.cell 0;have e1:W3.cell? ⟨R,1,none⟩=some (.slice none 0 0):=h5.up2.cell 1;have e2:W3.cell? ⟨R,2,none⟩=some (.bool false):=h5.up2.cell 2;have h6:=((h5.up2.set 0 (.slice kA kl2.length kc)).set 1 (.slice vA vl2.length vc)).set 2 (.bool dd);simp only[List.setIfInBounds_toArray,List.set_cons_zero,List.set_cons_succ] at h6;have HS6:=ah h6;clear h6 h5;go_wp2_with fail;have h6:=HS6.o;revert h6;generalize World.setCell _ _ _=w4;intro h6;refine bodyPost_ret (results_cell_row (p:=2) (by kernel_rfl) _ _ R 43 _ (0,0) _ rfl h6.at Tryz.underlying43 rfl (by kernel_rfl)) rfl ?_;exact⟨rfl,h6.chg⟩
theorem numT_any (x:Int) (w:World):Calls Tryz.prog 17 #[.int .i64 x] w fun e w'=>e = .returned (.int .i64 x)/\w=w':=by
 go_enter Tryz.func17, Tryz.ntmps17;go_wp2;go_ret;exact⟨rfl,rfl⟩
theorem two_w (p:Pu) (gl:Nat) (hk:k<=10000) (ht:t+1<=1024) (h:Sat w0 (Ow gl (.cells #[slv' p.key,slv' p.value,.bool p.dead] 43)*(StoS b d 1024 t k 0 nx M olds*F)) w) (hp: ∀ W,Chg No w0 W->PuR W p) (hz:p.key.2.2.length<=130/\p.value.2.2.length<=300) (hM:SmlT M) (hl:M.length<=10):
  Calls Tryz.prog 20 #[.pointer (some ⟨b,0,none⟩),.slice (some ⟨gl,0,none⟩) 1 1] w fun x w'=>x = .returned (.int .i64 (wrE [p.chn]))/\Sat w0 (StoS b d 1024 (t+1) (k+1) 0 nx (wrM [p.chn] M) olds*F) w':=by
 refine(twrite p gl hk ht h.up2.toSto (fun W hW=>hp W hW.chg) hz hM hl).mono ?_;rintro x w' ⟨rfl,hs⟩;exact⟨rfl,hs.toS⟩
theorem two_r (p:Pu) (gl:Nat) (h:Sat w0 (Ow gl (.cells #[slv' p.key,slv' p.value,.bool p.dead] 43)*(RdbP g N [] []*F)) w) (hp: ∀ W,Chg No w0 W->PuR W p) (hz:p.key.2.2.length<=130/\p.value.2.2.length<=300) (hl:N.length<=9000):
  Calls Tryz.prog 22 #[.pointer (some ⟨g,0,none⟩),.slice (some ⟨gl,0,none⟩) 1 1] w fun x w'=>x = .returned (.int .i64 (wrE [p.chn]))/\Sat w0 (RdbP g (wrM [p.chn] N) [] []*F) w':=by
 refine(rwrite1 p gl h.up2 (fun W hW=>hp W hW.chg) hl ⟨by omega,by omega⟩).mono ?_;rintro x w' ⟨rfl,hs⟩;exact⟨rfl,hs.of (by unfold wrM;rfl)⟩
theorem Sat.sto_up (h:Sat w0 (StoS b d n t k a nx M olds*F) w) {t' k':Nat} (ht:t<=t') (hk:k<=k'):Sat w0 (StoS b d n t' k' a nx M olds*F) w:=(h.toSto.mono ht hk).toS
theorem Sat.sto_len (h:Sat w0 (StoS b d n t k a nx M olds*F) w):M.length<=t:=h.toSto.pairs.2.1
end
end Go.Proofs.YtmbaiglpgaoogaaGreat
