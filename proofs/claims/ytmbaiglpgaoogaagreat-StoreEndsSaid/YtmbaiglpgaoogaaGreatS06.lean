/- Joined, as they were built one by one: Blk6 ExtD ExtB ExtL ExtG ExtS. -/
import Derived.Deep.CutBlock
import Derived.Test.YtmbaiglpgaoogaaGreatS04
namespace Go.Proofs.YtmbaiglpgaoogaaGreat
open Go.RowKit
set_option linter.unusedVariables false
set_option maxRecDepth 100000
def tornB (torn bytes:Int) (i:Nat):Bool:=decide ((i:Int)=torn∧1≤bytes∧bytes<512)
def keepB (keep:List Bool) (i:Nat):Bool:=keep[i]?.getD false
def onStep (keep:List Bool) (torn bytes:Int) (cells:List (List UInt8 × Bool)) (x:(Nat × List UInt8) × Nat):List (List UInt8 × Bool):=
 if tornB torn bytes x.2 then cells.set x.1.1 ([],true) else if keepB keep x.2 then lay cells x.1 else cells
def onAll (keep:List Bool) (torn bytes:Int) (cells:List (List UInt8 × Bool)) (ps:List (Nat × List UInt8)):List (List UInt8 × Bool):=ps.zipIdx.foldl (onStep keep torn bytes) cells
def Dk.on (D:Dk) (keep:List Bool) (torn bytes:Int):Dk:=if D.off then ⟨onAll keep torn bytes D.cells D.pend,[],0,D.writes,false⟩ else D
def onC (keep:List Bool) (torn bytes:Int) (cs:List (Slc × Bool)) (x:(Nat × Slc) × Nat):List (Slc × Bool):=
 if tornB torn bytes x.2 then cs.set x.1.1 ((none,0,[]),true) else if keepB keep x.2 then layC cs x.1 else cs
theorem on_onC (keep:List Bool) (torn bytes:Int): ∀ (xs:List ((Nat × Slc) × Nat)) (cs:List (Slc × Bool)),(xs.foldl (onC keep torn bytes) cs).map (fun x=>(x.1.2.2,x.2))=
  (xs.map fun x=>((x.1.1,x.1.2.2.2),x.2)).foldl (onStep keep torn bytes) (cs.map fun x=>(x.1.2.2,x.2))
 | [],cs=>rfl
 | x::xs,cs=>by
  rw[List.foldl_cons,on_onC keep torn bytes xs,List.map_cons,List.foldl_cons];congr 1
  unfold onC onStep;dsimp only;split
  ·rw[List.map_set]
  ·split
   ·exact lay_layC cs x.1
   ·rfl
theorem zip_map (ps:List (Nat × Slc)):(ps.zipIdx).map (fun x=>((x.1.1,x.1.2.2.2),x.2))=(ps.map fun x=>(x.1,x.2.2.2)).zipIdx:=by
 rw[List.zipIdx_map];rfl
theorem zip_take {α:Type} (ps:List α) (k:Nat) (h:k<ps.length):ps.zipIdx.take (k+1)=ps.zipIdx.take k++[(ps[k],k)]:=by
 rw[List.take_succ_eq_append_getElem (by simpa using h)];simp
set_option maxHeartbeats 2000000 in
theorem on_any (d:Nat) (D:Dk) (Kp:Option Addr) (kc:Nat) (keep:List Bool) (torn bytes:Int) (w0 w:World) (F:SP) (h:Sat w0 (Disk d D*(Ro Kp (keep.map Value.bool)*F)) w) (hw2:D.pend.length≤1000000000) (hkc:keep.length≤9223372036854775807):
  Calls Tryz.prog 39 #[.pointer (some ⟨d,0,none⟩),.slice Kp keep.length kc,.int .i64 torn,.int .i64 bytes] w fun e w'=>e = .returned (.tuple #[])∧Sat w0 (Disk d (D.on keep torn bytes)*(Ro Kp (keep.map Value.bool)*F)) w':=by
 have HH:=ah h;by_cases ho:D.off=true
 ·have HP:Hid (D.on keep torn bytes=⟨onAll keep torn bytes D.cells D.pend,[],0,D.writes,false⟩):=by unfold Hid Dk.on;rw[if_pos ho]
  obtain⟨C,cc,M,nm,vp,cs,ps,hr,hn,hs⟩:=h.disk;have hc5:=hs.head.c5;have hc1:=hs.head.c1;rw[ho] at hc5;have hpl:D.pend.length=ps.length:=by rw[hr.pend];simp
  rw[hpl] at hw2;obtain⟨A1,c1,rfl,hle,hmx⟩:=(hs.of disk_d).up3.row_sl;have HS:=ah hs;have HR:=ah hr;have HN:=ah hn;unfold maxLen at hmx;clear ho hr hn hs h hpl;go_enter Tryz.func39, Tryz.ntmps39;go_wp2_with fail;go_loopw [8,20] (fun _ i wr=> ∃ k:Nat,k≤ps.length∧i = .int .i64 k∧Hid (Cok cs ((ps.zipIdx.take k).foldl (onC keep torn bytes) cs) ps∧Sat w0 (DiskC d C cc M nm (.slice A1 ps.length c1) ((ps.zipIdx.take k).foldl (onC keep torn bytes) cs) ps D.armed D.writes D.off*(Ro Kp (keep.map Value.bool)*F)) wr)) (fun _ i _=>ps.length - (intOf i).toNat)
  case atStart=>exact⟨0,by omega,rfl,⟨rfl,HR.out.fitc⟩,HS.out⟩
  case round=>
   obtain⟨k,hk,rfl,HD⟩:=hrel;by_cases hlt:k<ps.length
   ·obtain⟨g,rfl,hg⟩:=(HD.out.2.of disk_d).up3.row_at (by omega);have q0:=hg (k*2) (by rw[flat2_len (fun _=>rfl)];omega);have q1:=hg (k*2+1) (by rw[flat2_len (fun _=>rfl)];omega);have e0:(ps.flatMap pendV)[k*2]'(by rw[flat2_len (fun _=>rfl)];omega) = .int .i64 ps[k].1:=by
     have:=flat2 (f:=pendV) (fun _=>rfl) ps k 0 hlt (by omega);exact Option.some.inj ((List.getElem?_eq_getElem _).symm.trans this)
    have e1:(ps.flatMap pendV)[k*2+1]'(by rw[flat2_len (fun _=>rfl)];omega)=slv ps[k].2:=by
     have:=flat2 (f:=pendV) (fun _=>rfl) ps k 1 hlt (by omega);exact Option.some.inj ((List.getElem?_eq_getElem _).symm.trans this)
    rw[e0] at q0;rw[e1] at q1;have hfp:=HR.out.fitp ps[k] (List.getElem_mem hlt);have HT:Hid ((ps.zipIdx.take (k+1)).foldl (onC keep torn bytes) cs=onC keep torn bytes ((ps.zipIdx.take k).foldl (onC keep torn bytes) cs) (ps[k],k)):=by
     rw[zip_take ps k hlt,List.foldl_append];rfl
    have HM:=ah (List.getElem_mem hlt);have hat:ps[k].1<cs.length:=hfp.2.2;have HF:=ah hfp;clear hg e0 e1 hfp;generalize ps[k]=p at*
    obtain⟨a,As,cz,ls⟩:=p;simp only[slv] at q0 q1 hat;generalize (ps.zipIdx.take k).foldl (onC keep torn bytes) cs=cs1 at*
    have h2:=HD.out.2.allocPt 140 #[.int .i64 a,.slice As ls.length cz];have hlc:cs1.length=cs.length:=HD.out.1.len;have HS2:=ah h2;clear h2;rw[←hlc] at hat;clear hlc;have hki:(k:Int)≤1000000000:=by omega
    go_upto_region 4 with fail;obtain⟨w2,hw2'⟩: ∃ w2,w2=wr.alloc (.cells #[.int .i64 a,.slice As ls.length cz] 140):=⟨_,rfl⟩;obtain⟨b,hb⟩: ∃ b,b=wr.heap.size:=⟨_,rfl⟩;rw[←hw2', ←hb] at HS2;rw[←hw2', ←hb];clear hw2' hb q0 q1;go_cut [25] (fun s wx=>s = .bool (tornB torn bytes k)∧Hid (wx=w2))
    case first=>
     by_cases g1:(k:Int)=torn
     ·have g1':((k:Int)==torn)=true:=by rw[beq_iff_eq];exact g1
      by_cases g2:1≤bytes
      ·by_cases g3:bytes<512
       ·have e:tornB torn bytes k=true:=by unfold tornB;exact decide_eq_true ⟨g1,g2,g3⟩
        have E:=ah e;clear e g1;go_wp2_with fail;go_meet
        exact⟨by rw[E.out],rfl⟩
       ·have e:tornB torn bytes k=false:=by unfold tornB;exact decide_eq_false fun h=>g3 h.2.2
        have E:=ah e;clear e g1;go_wp2_with fail;go_meet
        exact⟨by rw[E.out],rfl⟩
      ·have e:tornB torn bytes k=false:=by unfold tornB;exact decide_eq_false fun h=>g2 h.2.1
       have E:=ah e;clear e g1;go_wp2_with fail;go_meet
       exact⟨by rw[E.out],rfl⟩
     ·have g1':((k:Int)==torn)=false:=by rw[beq_eq_false_iff_ne];exact g1
      have e:tornB torn bytes k=false:=by unfold tornB;exact decide_eq_false fun h=>g1 h.1
      have E:=ah e;clear e g1;go_wp2_with fail;go_meet
      exact⟨by rw[E.out],rfl⟩
    case rest=>
     obtain⟨rfl,HW⟩:=hcut;have hw:=HW.out;subst hw;have q2:=HS2.out.cell 0;have q3:=HS2.out.cell 1;have q4:=HS2.out.right.head.c0;have q5:=HS2.out.right.cellsFree (a*2);have q6:=HS2.out.right.cellsFree (a*2+1);obtain⟨q7,q8⟩:=HS2.out.right.cellsAt hat
     cases ht:tornB torn bytes k with
     | true=>
      have HTT:=ah ht;clear ht;go_wp2_with fail;go_region
      go_wp2_with fail;go_roundw
      case rel=>
       refine⟨k+1,by omega,by go_num,?_⟩;rw[HT.out,onC];dsimp only;rw[if_pos HTT.out];exact⟨HD.out.1.put ⟨⟨fun _=>⟨rfl,rfl⟩,fun _=>rfl,Nat.le_refl _,by show (0:Nat)≤_;omega⟩,.inl rfl⟩,(HS2.out.right.setCellD a ((none,0,[]),true) hat (.inr rfl)).drew⟩
      case measure=>simp[intOf];omega
     | false=>
      have HTT:=ah ht;clear ht;have HK:Hid (∀ hk:k<keep.length, ∃ b o,Kp=some ⟨b,o,none⟩∧wc.cell? ⟨b,o+k,none⟩=some (.bool keep[k])):=fun hk=>by
       have h1:=HS2.out.right.up2.rdv.get (j:=k) (by simpa using hk);obtain⟨b,o,e,hc⟩:=h1;exact⟨b,o,e,by rw[hc];simp⟩
      by_cases g1:k<keep.length
      ·obtain⟨bk,ok,rfl,hck⟩:=HK.out g1;have HB:Hid (keepB keep k=keep[k]):=by unfold Hid keepB;rw[List.getElem?_eq_getElem g1];rfl
       have g1':(k:Int)<keep.length:=by omega
       cases hkk:keep[k] with
       | true=>
        rw[hkk] at hck HB;clear hkk;go_wp2_with fail;go_region
        go_wp2_with fail;go_roundw
        case rel=>
         refine⟨k+1,by omega,by go_num,?_⟩;rw[HT.out,onC];dsimp only;rw[if_neg (by rw[HTT.out];decide),if_pos HB.out];exact⟨HD.out.1.put ⟨HF.out.1,.inr HF.out.2.1⟩,(HS2.out.right.setCellD a ((As,cz,ls),false) hat (.inl (List.mem_map_of_mem (f:=Prod.snd) HM.out))).drew⟩
        case measure=>simp[intOf];omega
       | false=>
        rw[hkk] at hck HB;clear hkk;go_wp2_with fail;go_roundw
        case rel=>
         refine⟨k+1,by omega,by go_num,?_⟩;rw[HT.out,onC];dsimp only;rw[if_neg (by rw[HTT.out];decide),if_neg (by rw[HB.out];decide)];exact⟨HD.out.1,HS2.out.right⟩
        case measure=>simp[intOf];omega
      ·have HB:Hid (keepB keep k=false):=by unfold Hid keepB;rw[List.getElem?_eq_none (by omega)];rfl
       have g1':¬ (k:Int)<keep.length:=by omega
       go_wp2_with fail;go_roundw
       case rel=>
        refine⟨k+1,by omega,by go_num,?_⟩;rw[HT.out,onC];dsimp only;rw[if_neg (by rw[HTT.out];decide),if_neg (by rw[HB.out];decide)];exact⟨HD.out.1,HS2.out.right⟩
       case measure=>simp[intOf];omega
   ·have ht:ps.zipIdx.take k=ps.zipIdx:=List.take_of_length_le (by simp;omega);rw[ht] at HD;clear ht;have HE:Hid (Sat w0 (Disk d ⟨onAll keep torn bytes D.cells D.pend,D.pend,D.armed,D.writes,D.off⟩*(Ro Kp (keep.map Value.bool)*F)) wr):=by
     refine Sat.diskI (D:=⟨onAll keep torn bytes D.cells D.pend,D.pend,D.armed,D.writes,D.off⟩) HD.out.2 ⟨?_,HR.out.pend,HD.out.1.fitc,?_,?_,?_⟩ HN.out
     ·show onAll keep torn bytes D.cells D.pend=_;rw[HR.out.cells,HR.out.pend,on_onC,zip_map];rfl
     ·rw[HD.out.1.len];exact HR.out.fitp
     ·rw[HD.out.1.len];exact HR.out.two
     ·rw[HD.out.1.len];exact HR.out.most
    go_wp2_with fail;refine(settled_any d _ w0 wr _ HE.out).mono ?_;rintro e w' ⟨rfl,hs⟩;obtain⟨C',cc',M',nm',vp',cs',ps',hr',hn',hs'⟩:=hs.disk;have q1:=hs'.head.c3;have q2:=hs'.head.c5;have f1:=hs'.headF 3;have f2:=hs'.headF 5;have HS':=ah hs';have HR':=ah hr';have HN':=ah hn';clear hs hs' hr' hn';go_wp2_with fail;go_end0
    refine⟨rfl,?_⟩;rw[HP.out];exact Sat.diskI (D:=⟨onAll keep torn bytes D.cells D.pend,[],0,D.writes,false⟩) ((HS'.out.setArmed 0 rfl).setOff false) ⟨HR'.out.cells,HR'.out.pend,HR'.out.fitc,HR'.out.fitp,HR'.out.two,HR'.out.most⟩ HN'.out
 ·have ho':D.off=false:=by simpa using ho
  have HP:Hid (D.on keep torn bytes=D):=by unfold Hid Dk.on;rw[if_neg ho]
  obtain⟨C,cc,M,nm,vp,cs,ps,hr,hn,hs⟩:=h.disk;have hc5:=hs.head.c5;rw[ho'] at hc5;clear ho ho' hr hn hs h;go_enter Tryz.func39, Tryz.ntmps39;go_wp2_with fail;refine bodyPost_ret (results_none rfl _ _ _) rfl ?_;refine⟨rfl,?_⟩;rw[HP.out];exact HH.out
def valC (x:List UInt8 × Bool):List UInt8 × Int:=if x.2 then ([],24) else if x.1=[] then (List.replicate 512 0,0) else (x.1,0)
structure WfD (D:Dk):Prop where
 pend: ∀ x ∈ D.pend,x.1<D.cells.length∧x.2.length=512
def May (D:Dk) (i:Nat) (r:List UInt8 × Int):Prop:=(∃ x,D.cells[i]?=some x∧r=valC x)∨ ∃ b,(i,b) ∈ D.pend∧(r=(b,0)∨r=([],24))
theorem dk_ask (D:Dk) (i:Nat) (h:D.off=false) (hi:i<D.cells.length):D.ask i=0:=by
 unfold Dk.ask;rw[h,if_neg (by simp),if_pos (by omega)]
theorem read_last (D:Dk) (i:Nat) (h:D.off=false) (hi:i<D.cells.length) {b:List UInt8} (hb:D.last i=some b):D.read i=(b,0):=by
 unfold Dk.read;rw[if_pos (dk_ask D i h hi),hb]
theorem read_cell (D:Dk) (i:Nat) (h:D.off=false) (hi:i<D.cells.length) (hb:D.last i=none):D.read i=valC D.cells[i]:=by
 unfold Dk.read;rw[if_pos (dk_ask D i h hi),hb,Int.toNat_natCast,List.getElem?_eq_getElem hi];rfl
theorem last_mem (D:Dk) (i:Nat) {b:List UInt8} (hb:D.last i=some b):(i,b) ∈ D.pend:=by
 unfold Dk.last at hb;obtain⟨x,h1,h2⟩:=Option.map_eq_some_iff.1 hb;have h3:=List.mem_reverse.1 (List.mem_of_find?_eq_some h1);have h4:=List.find?_some h1;have h5:x.1=i:=by
  have:((x.1:Nat):Int)=(i:Int):=by simpa using h4
  omega
 obtain⟨a,c⟩:=x;simp only at h2 h5;subst h2;subst h5;exact h3
theorem may_read (D:Dk) (i:Nat) (h:D.off=false) (hi:i<D.cells.length):May D i (D.read i):=by
 cases hb:D.last i with
 | none=>rw[read_cell D i h hi hb];exact .inl ⟨_,List.getElem?_eq_getElem hi,rfl⟩
 | some b=>rw[read_last D i h hi hb];exact .inr ⟨b,last_mem D i hb,.inl rfl⟩
theorem last_nil (D:Dk) (h:D.pend=[]) (i:Int):D.last i=none:=by unfold Dk.last;rw[h];rfl
theorem may_nil (D:Dk) (i:Nat) (hp:D.pend=[]) (h:D.off=false) (hi:i<D.cells.length) {r:List UInt8 × Int} (hr:May D i r):r=D.read i:=by
 rcases hr with ⟨x,h1,h2⟩ | ⟨b,h1,_⟩
 ·rw[read_cell D i h hi (last_nil D hp i),h2];rw[List.getElem?_eq_getElem hi] at h1;injection h1 with h1
  rw[h1]
 ·rw[hp] at h1;cases h1
theorem read_off (D:Dk) (i:Int) (h:D.off=true):D.read i=([],21):=by
 have:D.ask i=21:=by unfold Dk.ask;rw[h];rfl
 unfold Dk.read;rw[this];rfl
theorem write_took (D:Dk) (i:Nat) (b:List UInt8) (h:D.off=false) (hi:i<D.cells.length) (hb:b.length=512):D.write i b=(D.took i b,if D.armed=1 then 21 else 0):=by
 unfold Dk.write;rw[if_pos (dk_ask D i h hi),if_pos hb,Int.toNat_natCast]
theorem took_last (D:Dk) (i j:Nat) (b:List UInt8):(D.took i b).last j=if j=i then some b else D.last j:=by
 unfold Dk.last Dk.took;simp only[List.reverse_append,List.reverse_cons,List.reverse_nil,List.nil_append,List.singleton_append,List.find?_cons];by_cases h:j=i
 ·subst h;simp
 ·have h2:(((i:Nat):Int)==(j:Int))=false:=by simp;omega
  rw[h2,if_neg h]
theorem took_may (D:Dk) (i j:Nat) (b:List UInt8) {r:List UInt8 × Int} (hr:May (D.took i b) j r):May D j r∨(j=i∧(r=(b,0)∨r=([],24))):=by
 rcases hr with ⟨x,h1,h2⟩ | ⟨c,h1,h2⟩
 ·exact .inl (.inl ⟨x,h1,h2⟩)
 ·rcases List.mem_append.1 h1 with h3 | h3
  ·exact .inl (.inr ⟨c,h3,h2⟩)
  ·rw[List.mem_singleton] at h3;injection h3 with h4 h5
   subst h5;exact .inr ⟨h4,h2⟩
theorem took_wf {D:Dk} (hw:WfD D) {i:Nat} {b:List UInt8} (hi:i<D.cells.length) (hb:b.length=512):WfD (D.took i b):=
 ⟨fun x hx=>by
  rcases List.mem_append.1 hx with h | h
  ·exact hw.pend x h
  ·rw[List.mem_singleton] at h;subst h;exact⟨hi,hb⟩⟩
theorem lay_len (ps:List (Nat × List UInt8)): ∀ cells:List (List UInt8 × Bool),(ps.foldl lay cells).length=cells.length:=by
 induction ps with
 | nil=>intro _;rfl
 | cons p ps ih=>intro cells;rw[List.foldl_cons,ih];unfold lay;rw[List.length_set]
theorem lay_get: ∀ (ps:List (Nat × List UInt8)) (cells:List (List UInt8 × Bool)) (i:Nat) (hi:i<cells.length),
  (ps.foldl lay cells)[i]?=match (ps.reverse.find? fun x=>((x.1:Nat):Int)==(i:Int)) with | some x=>some (x.2,false) | none=>cells[i]?
 | [],cells,i,hi=>rfl
 | p::ps,cells,i,hi=>by
  rw[List.foldl_cons,lay_get ps (lay cells p) i (by unfold lay;rw[List.length_set];exact hi),List.reverse_cons,List.find?_append]
  cases hf:(ps.reverse.find? fun x=>((x.1:Nat):Int)==(i:Int)) with
  | some x=>rfl
  | none=>
   simp only[Option.none_or,List.find?_cons,List.find?_nil];unfold lay;by_cases e:p.1=i
   ·subst e;simp[hi]
   ·have h2:(((p.1:Nat):Int)==(i:Int))=false:=by simp;omega
    rw[h2,List.getElem?_set_ne e]
theorem flush_on (D:Dk) (h:D.off=false):D.flush=({ D with cells:=D.pend.foldl lay D.cells,pend:=[] },0):=by unfold Dk.flush;rw[h];rfl
theorem flush_read (D:Dk) (hw:WfD D) (h:D.off=false) (i:Nat) (hi:i<D.cells.length):(D.flush.1).read i=D.read i:=by
 rw[flush_on D h];have hl:=lay_len D.pend D.cells;have h2:=read_cell ({ D with cells:=D.pend.foldl lay D.cells,pend:=[] }:Dk) i h (by simp only[hl];exact hi) (last_nil _ rfl i);rw[h2];have h3:=lay_get D.pend D.cells i hi;have h4:(D.pend.foldl lay D.cells)[i]?=some ((D.pend.foldl lay D.cells)[i]'(by rw[hl];exact hi)):=List.getElem?_eq_getElem _;rw[h4] at h3
 cases hb:D.last i with
 | none=>
  rw[read_cell D i h hi hb];unfold Dk.last at hb;rw[Option.map_eq_none_iff] at hb;rw[hb] at h3;simp only[List.getElem?_eq_getElem hi] at h3;injection h3 with h3
  rw[←h3]
 | some b=>
  rw[read_last D i h hi hb];have hm:=(hw.pend _ (last_mem D i hb)).2;unfold Dk.last at hb;obtain⟨x,h5,h6⟩:=Option.map_eq_some_iff.1 hb;rw[h5] at h3;simp only at h3;injection h3 with h3
  show valC ((D.pend.foldl lay D.cells)[i]'_)=_;rw[h3,h6];unfold valC;simp only[Bool.false_eq_true,if_false];rw[if_neg (by intro e;simp only at hm;rw[e] at hm;simp at hm)]
theorem onStep_len (keep:List Bool) (torn bytes:Int) (cells:List (List UInt8 × Bool)) (x:(Nat × List UInt8) × Nat):(onStep keep torn bytes cells x).length=cells.length:=by
 unfold onStep lay;split
 ·rw[List.length_set]
 ·split
  ·rw[List.length_set]
  ·rfl
theorem onAll_get (keep:List Bool) (torn bytes:Int): ∀ (xs:List ((Nat × List UInt8) × Nat)) (cells:List (List UInt8 × Bool)) (i:Nat) (x:List UInt8 × Bool),(xs.foldl (onStep keep torn bytes) cells)[i]?=some x→
  cells[i]?=some x∨ ∃ b k,((i,b),k) ∈ xs∧(x=(b,false)∨x=([],true))
 | [],cells,i,x,h=> .inl h
 | p::ps,cells,i,x,h=>by
  rw[List.foldl_cons] at h;rcases onAll_get keep torn bytes ps _ i x h with h1 | ⟨b,k,h1,h2⟩
  ·unfold onStep lay at h1;split at h1
   ·by_cases e:p.1.1=i
    ·subst e;rw[List.getElem?_set] at h1;split at h1
     ·split at h1
      ·injection h1 with h1
       exact .inr ⟨p.1.2,p.2,by simp,.inr h1.symm⟩
      ·cases h1
     ·exact .inl h1
    ·rw[List.getElem?_set_ne e] at h1;exact .inl h1
   ·split at h1
    ·by_cases e:p.1.1=i
     ·subst e;rw[List.getElem?_set] at h1;split at h1
      ·split at h1
       ·injection h1 with h1
        exact .inr ⟨p.1.2,p.2,by simp,.inl h1.symm⟩
       ·cases h1
      ·exact .inl h1
     ·rw[List.getElem?_set_ne e] at h1;exact .inl h1
    ·exact .inl h1
  ·exact .inr ⟨b,k,List.mem_cons_of_mem _ h1,h2⟩
theorem onAll_len (keep:List Bool) (torn bytes:Int): ∀ (xs:List ((Nat × List UInt8) × Nat)) (cells:List (List UInt8 × Bool)),(xs.foldl (onStep keep torn bytes) cells).length=cells.length
 | [],cells=>rfl
 | p::ps,cells=>by rw[List.foldl_cons,onAll_len keep torn bytes ps,onStep_len]
def Dk.crash (D:Dk) (keep:List Bool) (torn bytes:Int):Dk:=({ D with off:=true }:Dk).on keep torn bytes
section
variable {D:Dk} {keep:List Bool} {torn bytes:Int}
theorem crash_eq:D.crash keep torn bytes=⟨onAll keep torn bytes D.cells D.pend,[],0,D.writes,false⟩:=rfl
theorem crash_len:(D.crash keep torn bytes).cells.length=D.cells.length:=by rw[crash_eq];exact onAll_len keep torn bytes _ _
theorem crash_pend:(D.crash keep torn bytes).pend=[]:=rfl
theorem crash_off:(D.crash keep torn bytes).off=false:=rfl
theorem crash_wf:WfD (D.crash keep torn bytes):=⟨fun x hx=>by rw[crash_pend] at hx;cases hx⟩
theorem crash_may (hw:WfD D) (i:Nat) (hi:i<D.cells.length):May D i ((D.crash keep torn bytes).read i):=by
 have hl:i<(D.crash keep torn bytes).cells.length:=by rw[crash_len];exact hi
 rw[read_cell _ i crash_off hl (last_nil _ crash_pend i)];have h1:(D.crash keep torn bytes).cells[i]?=some ((D.crash keep torn bytes).cells[i]'hl):=List.getElem?_eq_getElem hl;obtain⟨x,hx⟩: ∃ x,x=(D.crash keep torn bytes).cells[i]'hl:=⟨_,rfl⟩;rw[←hx] at h1 ⊢;rcases onAll_get keep torn bytes D.pend.zipIdx D.cells i x h1 with h2 | ⟨b,k,h2,h3⟩
 ·exact .inl ⟨x,h2,rfl⟩
 ·have hm:(i,b) ∈ D.pend:=List.mem_of_getElem? (List.mem_zipIdx_iff_getElem?.1 h2);refine .inr ⟨b,hm,?_⟩;rcases h3 with rfl | rfl
  ·left
   have:=(hw.pend _ hm).2;unfold valC;simp only[Bool.false_eq_true,if_false];rw[if_neg (by intro e;simp only at this;rw[e] at this;simp at this)]
  ·right;rfl
end
theorem padB_len {l:List UInt8} (h:l.length≤512):(padB l).length=512:=by unfold padB;rw[List.length_append,List.length_replicate];omega
theorem hdB_len (h:Hd):(hdB h).length=20:=by unfold hdB;simp only[List.length_append,putB_len]
theorem heads_len: ∀ hs:List Hd,(hs.map hdB).flatten.length=20*hs.length
 | []=>rfl
 | h::hs=>by rw[List.map_cons,List.flatten_cons,List.length_append,hdB_len,heads_len hs,List.length_cons];omega
theorem headB_len (turn:Nat) (hs:List Hd):(headB turn hs).length=13+20*hs.length:=by
 unfold headB;simp only[List.length_append,putB_len,heads_len];show 4+_=_;omega
theorem sealB_len {turn:Nat} {hs:List Hd} (h:hs.length≤24):(sealB turn hs).length=512:=padB_len (by rw[headB_len];omega)
theorem frame_len {birth life:Nat} {p:List UInt8} (h:p.length≤480):(frameB birth life p).length=512:=padB_len (by simp only[List.length_append,putB_len];omega)
def HdOk (h:Hd):Prop:=h.num<4294967296∧h.first<4294967296∧h.blocks<4294967296∧h.birth<18446744073709551616
theorem get4 {x:Nat} (h:x<4294967296):getN (putB x 4)=x:=by rw[get_put];exact Nat.mod_eq_of_lt h
theorem get8 {x:Nat} (h:x<18446744073709551616):getN (putB x 8)=x:=by rw[get_put];exact Nat.mod_eq_of_lt h
theorem get2 {x:Nat} (h:x<65536):getN (putB x 2)=x:=by rw[get_put];exact Nat.mod_eq_of_lt h
theorem hdOf_hdB {h:Hd} (ho:HdOk h) (r:List UInt8):hdOf (hdB h++r)=h:=by
 obtain⟨n,f,b,i⟩:=h;obtain⟨h1,h2,h3,h4⟩:=ho;unfold hdOf hdB;have l1:=putB_len n 4;have l2:=putB_len f 4;have l3:=putB_len b 4;have l4:=putB_len i 8;simp only[List.append_assoc];have e4:(putB n 4++(putB f 4++(putB b 4++(putB i 8++r)))).drop 4=putB f 4++(putB b 4++(putB i 8++r)):=List.drop_left' l1;have e8:(putB n 4++(putB f 4++(putB b 4++(putB i 8++r)))).drop 8=putB b 4++(putB i 8++r):=by
  rw[show (8:Nat)=4+4 from rfl, ←List.drop_drop,e4];exact List.drop_left' l2
 have e12:(putB n 4++(putB f 4++(putB b 4++(putB i 8++r)))).drop 12=putB i 8++r:=by
  rw[show (12:Nat)=8+4 from rfl, ←List.drop_drop,e8];exact List.drop_left' l3
 rw[e4,e8,e12,List.take_left' l1,List.take_left' l2,List.take_left' l3,List.take_left' l4,get4 h1,get4 h2,get4 h3,get8 h4]
theorem rowsH_seal: ∀ (hs:List Hd) (r:List UInt8),(∀ h ∈ hs,HdOk h)→rowsH hs.length ((hs.map hdB).flatten++r)=hs
 | [],r,_=>rfl
 | h::hs,r,ho=>by
  rw[List.map_cons,List.flatten_cons,List.append_assoc,List.length_cons];unfold rowsH;rw[hdOf_hdB (ho h (by simp)),List.drop_left' (hdB_len h),rowsH_seal hs r (fun x hx=>ho x (List.mem_cons_of_mem _ hx))]
theorem put1 {n:Nat} (h:n<256):putB n 1=[UInt8.ofNat n]:=by
 show [byteAt n 1 0]=_;unfold byteAt;simp only[Nat.sub_self,Nat.pow_zero,Nat.div_one,Nat.mod_eq_of_lt h]
theorem unseal_seal {turn:Nat} {hs:List Hd} (ht:turn<18446744073709551616) (hn:hs.length≤24) (ho: ∀ h ∈ hs,HdOk h):unsealB (sealB turn hs)=some (turn,hs):=by
 obtain⟨z,hz⟩: ∃ z,z=List.replicate (512 - (headB turn hs).length) (0:UInt8):=⟨_,rfl⟩;obtain⟨R,hR⟩: ∃ R,R=(hs.map hdB).flatten:=⟨_,rfl⟩;have e:sealB turn hs=markX++(putB turn 8++(UInt8.ofNat hs.length::(R++z))):=by
  unfold sealB padB;rw[←hz];unfold headB;rw[put1 (by omega), ←hR];simp only[List.append_assoc,List.cons_append,List.nil_append]
 have l8:=putB_len turn 8;have d4:(sealB turn hs).drop 4=putB turn 8++(UInt8.ofNat hs.length::(R++z)):=by rw[e];rfl
 have d12:(sealB turn hs).drop 12=UInt8.ofNat hs.length::(R++z):=by
  rw[show (12:Nat)=4+8 from rfl, ←List.drop_drop,d4];exact List.drop_left' l8
 have d13:(sealB turn hs).drop 13=R++z:=by rw[show (13:Nat)=12+1 from rfl, ←List.drop_drop,d12];rfl
 have g12:(sealB turn hs).getD 12 0=UInt8.ofNat hs.length:=by
  have h9:(sealB turn hs)[12]?=((sealB turn hs).drop 12)[0]?:=by rw[List.getElem?_drop]
  rw[List.getD_eq_getElem?_getD,h9,d12];rfl
 have gn:((sealB turn hs).getD 12 0).toNat=hs.length:=by rw[g12,UInt8.toNat_ofNat',Nat.mod_eq_of_lt (by omega)]
 unfold unsealB;rw[gn,d4,d13,List.take_left' l8,get8 ht,hR,rowsH_seal hs z ho,if_pos ⟨by rw[e];rfl,hn⟩]
theorem frame_parts {birth life:Nat} {p:List UInt8} (hb:birth<18446744073709551616) (hl:life<18446744073709551616) (hp:p.length≤480):
  (frameB birth life p).take 8=putB birth 8∧((frameB birth life p).drop 8).take 8=putB life 8∧((frameB birth life p).drop 16).take 2=putB p.length 2∧((frameB birth life p).drop 18).take p.length=p:=by
 obtain⟨z,hz⟩: ∃ z,z=List.replicate (512 - (putB birth 8++(putB life 8++(putB p.length 2++p))).length) (0:UInt8):=⟨_,rfl⟩;have e:frameB birth life p=putB birth 8++(putB life 8++(putB p.length 2++(p++z))):=by
  unfold frameB padB;rw[←hz];simp only[List.append_assoc]
 have l1:=putB_len birth 8;have l2:=putB_len life 8;have l3:=putB_len p.length 2;have d8:(frameB birth life p).drop 8=putB life 8++(putB p.length 2++(p++z)):=by rw[e];exact List.drop_left' l1
 have d16:(frameB birth life p).drop 16=putB p.length 2++(p++z):=by rw[show (16:Nat)=8+8 from rfl, ←List.drop_drop,d8];exact List.drop_left' l2
 have d18:(frameB birth life p).drop 18=p++z:=by rw[show (18:Nat)=16+2 from rfl, ←List.drop_drop,d16];exact List.drop_left' l3
 exact⟨by rw[e];exact List.take_left' l1,by rw[d8];exact List.take_left' l2,by rw[d16];exact List.take_left' l3,by rw[d18];exact List.take_left' rfl⟩
section
variable {birth life:Nat} {p:List UInt8} (hb:birth<18446744073709551616) (hl:life<18446744073709551616) (hp:p.length≤480)
include hb hl hp
theorem frame_birth:getN ((frameB birth life p).take 8)=birth:=by rw[(frame_parts hb hl hp).1,get8 hb]
theorem frame_good:goodB birth (frameB birth life p)=true:=by
 unfold goodB;rw[frame_birth hb hl hp,(frame_parts hb hl hp).2.2.1,get2 (by omega)];exact decide_eq_true ⟨rfl,hp⟩
theorem frame_life:lifeB (frameB birth life p)=life:=by unfold lifeB;rw[(frame_parts hb hl hp).2.1,get8 hl]
theorem frame_body:bodyX (frameB birth life p)=p:=by unfold bodyX;rw[(frame_parts hb hl hp).2.2.1,get2 (by omega)];exact(frame_parts hb hl hp).2.2.2
end
def Junk (birth last:Nat) (r:List UInt8 × Int):Prop:=r.2≠0∨goodB birth r.1=false∨lifeB r.1<last
def lastL (ls:List Nat) (m:Nat):Nat:=if m=0 then 0 else ls.getD (m - 1) 0
section
variable {D:Dk} {birth first:Nat}
theorem ld_succ (k:Nat):ldRun D birth first (k+1)=ldStep birth (D.read ((first+k:Nat):Int)) (ldRun D birth first k):=rfl
theorem ld_over (k:Nat) (h:(ldRun D birth first k).over=true):(ldRun D birth first (k+1)).over=true∧(ldRun D birth first (k+1)).frames=(ldRun D birth first k).frames:=by
 rw[ld_succ];unfold ldStep;split
 ·exact⟨rfl,rfl⟩
 ·split
  ·exact⟨rfl,rfl⟩
  ·rw[if_pos (.inl h)];exact⟨rfl,rfl⟩
theorem ld_overs (k:Nat) (h:(ldRun D birth first k).over=true): ∀ j,(ldRun D birth first (k+j)).over=true∧(ldRun D birth first (k+j)).frames=(ldRun D birth first k).frames
 | 0=>⟨h,rfl⟩
 | j+1=>by
  obtain⟨h1,h2⟩:=ld_overs k h j;obtain⟨h3,h4⟩:=ld_over (k+j) h1;exact⟨h3,h4.trans h2⟩
theorem ld_most_mono (k:Nat):(ldRun D birth first k).most≤(ldRun D birth first (k+1)).most:=by
 rw[ld_succ];unfold ldStep;split
 ·exact Nat.le_refl _
 ·split
  ·exact Nat.le_refl _
  ·split
   ·exact Nat.le_max_left _ _
   ·exact Nat.le_max_left _ _
theorem ld_most_le (a:Nat): ∀ j,(ldRun D birth first a).most≤(ldRun D birth first (a+j)).most
 | 0=>Nat.le_refl _
 | j+1=>Nat.le_trans (ld_most_le a j) (ld_most_mono (a+j))
theorem ld_most_ge {n k:Nat} (hk:k<n) (h1:(D.read ((first+k:Nat):Int)).2=0) (h2:goodB birth (D.read ((first+k:Nat):Int)).1=true):lifeB (D.read ((first+k:Nat):Int)).1≤(ldRun D birth first n).most:=by
 have h3:lifeB (D.read ((first+k:Nat):Int)).1≤(ldRun D birth first (k+1)).most:=by
  rw[ld_succ];unfold ldStep;rw[if_neg (by rw[h1];simp),if_neg (by rw[h2];simp)];split
  ·exact Nat.le_max_right _ _
  ·exact Nat.le_max_right _ _
 have h4:=ld_most_le (D:=D) (birth:=birth) (first:=first) (k+1) (n - (k+1));rw[show k+1+(n - (k+1))=n by omega] at h4;omega
theorem ld_most_bound {B:Nat}: ∀ n,(∀ k,k<n→(D.read ((first+k:Nat):Int)).2=0→goodB birth (D.read ((first+k:Nat):Int)).1=true→lifeB (D.read ((first+k:Nat):Int)).1≤B)→(ldRun D birth first n).most≤B
 | 0,_=>Nat.zero_le _
 | n+1,h=>by
  have ih:=ld_most_bound n (fun k hk=>h k (by omega));have hn:=h n (by omega);rw[ld_succ];unfold ldStep;split
  ·exact ih
  ·rename_i h1;split
   ·exact ih
   ·rename_i h2;have h3:=hn (by simpa using h1) (by simpa using h2);split
    ·exact Nat.max_le.2 ⟨ih,h3⟩
    ·exact Nat.max_le.2 ⟨ih,h3⟩
theorem ld_take {fr:List (List UInt8)} {ls:List Nat} (hb:birth<18446744073709551616) (hs: ∀ p ∈ fr,p.length≤480) (hl: ∀ k,k<fr.length→ls.getD k 0<18446744073709551616) (hso: ∀ k,k+1<fr.length→ls.getD k 0≤ls.getD (k+1) 0):
  ∀ m,m≤fr.length→(∀ k (h:k<fr.length),k<m→D.read ((first+k:Nat):Int)=(frameB birth (ls.getD k 0) fr[k],0))→
  (ldRun D birth first m).over=false∧(ldRun D birth first m).last=lastL ls m∧(ldRun D birth first m).frames=fr.take m
 | 0,_,_=>⟨rfl,rfl,rfl⟩
 | m+1,hm,h=>by
  obtain⟨i1,i2,i3⟩:=ld_take hb hs hl hso m (by omega) (fun k hk hkm=>h k hk (by omega));have hr:=h m (by omega) (by omega);have hp:=hs fr[m] (List.getElem_mem _);have hlm:=hl m (by omega);have g1:=frame_good hb hlm hp;have g2:=frame_life hb hlm hp;have g3:=frame_body hb hlm hp;have hle:lastL ls m≤ls.getD m 0:=by
   unfold lastL;split
   ·exact Nat.zero_le _
   ·have:=hso (m - 1) (by omega);rwa [show m - 1+1=m by omega] at this
  rw[ld_succ];unfold ldStep;rw[hr];dsimp only;rw[if_neg (by simp),if_neg (by rw[g1];simp),if_neg (by rw[i1,i2,g2];rintro (h5 | h5);cases h5;omega)];refine⟨rfl,?_,?_⟩
  ·show lifeB _=_;rw[g2];unfold lastL;rw[if_neg (by omega)];rfl
  ·show _++[bodyX _]=_;rw[i3,g3,List.take_succ_eq_append_getElem (by omega)]
theorem ld_stop {ls:List Nat} {m:Nat} (h1:(ldRun D birth first m).last=lastL ls m) (hj:Junk birth (lastL ls m) (D.read ((first+m:Nat):Int))):
  (ldRun D birth first (m+1)).over=true∧(ldRun D birth first (m+1)).frames=(ldRun D birth first m).frames:=by
 rw[ld_succ];unfold ldStep;by_cases e1:(D.read ((first+m:Nat):Int)).2=0
 ·rw[if_neg (by rw[e1];simp)];by_cases e2:goodB birth (D.read ((first+m:Nat):Int)).1=true
  ·rw[if_neg (by rw[e2];simp),if_pos]
   ·exact⟨rfl,rfl⟩
   ·right
    rw[h1];rcases hj with h | h | h
    ·exact absurd e1 h
    ·rw[h] at e2;cases e2
    ·exact h
  ·rw[if_pos (by simpa using e2)];exact⟨rfl,rfl⟩
 ·rw[if_pos e1];exact⟨rfl,rfl⟩
end
structure FileOk (D:Dk) (f:Fl) (ls:List Nat) (safe:Nat):Prop where
 len:ls.length=f.frames.length
 fits:f.frames.length≤f.blocks
 small: ∀ p ∈ f.frames,p.length≤480
 sorted: ∀ k,k+1<f.frames.length→ls.getD k 0≤ls.getD (k+1) 0
 top: ∀ k,k<f.frames.length→ls.getD k 0≤f.life
 safeLe:safe≤f.frames.length
 now: ∀ k (h:k<f.frames.length),D.read ((f.first+k:Nat):Int)=(frameB f.birth (ls.getD k 0) f.frames[k],0)
 all: ∀ k r,k<f.blocks→May D (f.first+k) r→r.2=0→goodB f.birth r.1=true→lifeB r.1≤(ldRun D f.birth f.first f.blocks).most
 most:(ldRun D f.birth f.first f.blocks).most≤f.life
 new:(ldRun D f.birth f.first f.blocks).most=f.life→0<f.frames.length∧lastL ls f.frames.length=f.life
 behind: ∀ k r,f.frames.length≤k→k<f.blocks→May D (f.first+k) r→Junk f.birth f.life r
 gap:f.frames.length<f.blocks→ ∀ r,May D (f.first+f.frames.length) r→Junk f.birth (lastL ls f.frames.length) r
 lost: ∀ k (h:k<f.frames.length) r,May D (f.first+k) r→r=(frameB f.birth (ls.getD k 0) f.frames[k],0)∨(safe≤k∧Junk f.birth (lastL ls k) r)
theorem FileOk.less {D:Dk} {f:Fl} {ls:List Nat} {s t:Nat} (h:FileOk D f ls s) (hts:t≤s):FileOk D f ls t:=
 ⟨h.len,h.fits,h.small,h.sorted,h.top,Nat.le_trans hts h.safeLe,h.now,h.all,h.most,h.new,h.behind,h.gap,fun k hk r hr=>(h.lost k hk r hr).imp id fun ⟨h1,h2⟩=>⟨by omega,h2⟩⟩
theorem first_fail {P:Nat→Prop}: ∀ n, ∃ m,m≤n∧(∀ j,j<m→P j)∧(m<n→¬ P m)
 | 0=>⟨0,Nat.le_refl _,fun j h=>by omega,fun h=>by omega⟩
 | n+1=>by
  obtain⟨m,h1,h2,h3⟩:=first_fail (P:=P) n;by_cases hm:m<n
  ·exact⟨m,by omega,h2,fun _=>h3 hm⟩
  ·have:m=n:=by omega
   subst this;by_cases hp:P m
   ·exact⟨m+1,Nat.le_refl _,fun j hj=>by
     by_cases e:j=m
     ·subst e;exact hp
     ·exact h2 j (by omega),fun h=>by omega⟩
   ·exact⟨m,by omega,h2,fun _=>hp⟩
section
variable {D E:Dk} {f:Fl} {ls:List Nat} {safe:Nat}
theorem FileOk.loads (h:FileOk D f ls safe) (hb:f.birth<18446744073709551616) (hl:f.life<18446744073709551616) (hE: ∀ k,k<f.blocks→May D (f.first+k) (E.read ((f.first+k:Nat):Int))):
  ∃ m,safe≤m∧m≤f.frames.length∧(ldRun E f.birth f.first f.blocks).frames=f.frames.take m∧
   (∀ k (hk:k<f.frames.length),k<m→E.read ((f.first+k:Nat):Int)=(frameB f.birth (ls.getD k 0) f.frames[k],0))∧
   (m<f.blocks→Junk f.birth (lastL ls m) (E.read ((f.first+m:Nat):Int))):=by
 obtain⟨m,h1,h2,h3⟩:=first_fail (P:=fun k=> ∀ hk:k<f.frames.length,E.read ((f.first+k:Nat):Int)=(frameB f.birth (ls.getD k 0) f.frames[k],0)) f.frames.length;have hfit:=h.fits;have hj:m<f.blocks→Junk f.birth (lastL ls m) (E.read ((f.first+m:Nat):Int)):=fun hm=>by
  by_cases e:m<f.frames.length
  ·have h4:=h3 e;rcases h.lost m e _ (hE m hm) with h5 | h5
   ·exact absurd (fun _=>h5) h4
   ·exact h5.2
  ·have:m=f.frames.length:=by omega
   subst this;exact h.gap hm _ (hE _ hm)
 have hsafe:safe≤m:=by
  rcases Nat.lt_or_ge m safe with hlt | hge
  ·have hs:=h.safeLe;have e:m<f.frames.length:=by omega
   rcases h.lost m e _ (hE m (by omega)) with h5 | h5
   ·exact absurd (fun _=>h5) (h3 e)
   ·omega
  ·exact hge
 have ht:=ld_take (D:=E) (first:=f.first) hb h.small (fun k hk=>by have:=h.top k hk;omega) h.sorted m h1 (fun k hk hkm=>h2 k hkm hk);refine⟨m,hsafe,h1,?_,fun k hk hkm=>h2 k hkm hk,hj⟩;by_cases hm:m<f.blocks
 ·have hst:=ld_stop ht.2.1 (hj hm);have ho:=ld_overs (m+1) hst.1 (f.blocks - (m+1));rw[show m+1+(f.blocks - (m+1))=f.blocks by omega] at ho;rw[ho.2,hst.2,ht.2.2]
 ·have:m=f.blocks:=by omega
  rw[←this];exact ht.2.2
theorem FileOk.most2 (h:FileOk D f ls safe) (hE: ∀ k,k<f.blocks→May D (f.first+k) (E.read ((f.first+k:Nat):Int))):(ldRun E f.birth f.first f.blocks).most≤f.life:=
 Nat.le_trans (ld_most_bound f.blocks fun k hk h1 h2=>h.all k _ hk (hE k hk) h1 h2) h.most
theorem FileOk.crashed (h:FileOk D f ls safe) (hb:f.birth<18446744073709551616) (hl:f.life<9223372036854775808) (hE: ∀ k,k<f.blocks→May D (f.first+k) (E.read ((f.first+k:Nat):Int)))
  (hS: ∀ k r,k<f.blocks→May E (f.first+k) r→r=E.read ((f.first+k:Nat):Int)):
  ∃ m,safe≤m∧m≤f.frames.length∧ ∃ life,life≤f.life+1∧Fl.load E { f with frames:=[] }={ f with life:=life,frames:=f.frames.take m }∧FileOk E { f with life:=life,frames:=f.frames.take m } (ls.take m) m:=by
 obtain⟨m,h1,h2,h3,h4,h5⟩:=h.loads hb (by omega) hE;have hm2:=h.most2 hE;refine⟨m,h1,h2,(ldRun E f.birth f.first f.blocks).most+1,by omega,?_,?_⟩
 ·unfold Fl.load;simp only[List.nil_append];rw[h3,Nat.mod_eq_of_lt (by omega)]
 have hlt:(f.frames.take m).length=m:=by rw[List.length_take];omega
 have hgt: ∀ k,k<m→(ls.take m).getD k 0=ls.getD k 0:=fun k hk=>by
  rw[List.getD_eq_getElem?_getD,List.getD_eq_getElem?_getD,List.getElem?_take,if_pos hk]
 have hlast:lastL (ls.take m) m=lastL ls m:=by
  unfold lastL;split
  ·rfl
  ·exact hgt (m - 1) (by omega)
 have hlk: ∀ k,k≤m→lastL (ls.take m) k=lastL ls k:=fun k hk=>by
  unfold lastL;split
  ·rfl
  ·exact hgt (k - 1) (by omega)
 have hfit:=h.fits;have hge: ∀ k,k<m→ls.getD k 0≤(ldRun E f.birth f.first f.blocks).most:=fun k hk=>by
  have hr:=h4 k (by omega) hk;have hp:=h.small f.frames[k] (List.getElem_mem _);have hlk2:ls.getD k 0<18446744073709551616:=by have:=h.top k (by omega);omega
  have h9:=ld_most_ge (D:=E) (birth:=f.birth) (first:=f.first) (n:=f.blocks) (k:=k) (by omega) (by rw[hr]) (by rw[hr];exact frame_good hb hlk2 hp);rw[hr] at h9;rwa [frame_life hb hlk2 hp] at h9
 refine⟨by rw[List.length_take];simp only[hlt];have:=h.len;omega,by simp only[hlt];omega,fun p hp=>h.small p (List.mem_of_mem_take hp),fun k hk=>?_,fun k hk=>?_,by simp only[hlt];omega,fun k hk=>?_,fun k r hk hr hr2 hg=>?_,Nat.le_succ _,fun e=>by simp only at e;omega,fun k r hk hkb hr=>?_,fun hk r hr=>?_,fun k hk r hr=>?_⟩
 ·simp only[hlt] at hk;rw[hgt k (by omega),hgt (k+1) (by omega)];exact h.sorted k (by omega)
 ·simp only[hlt] at hk;rw[hgt k hk];have:=hge k hk;simp only;omega
 ·simp only[hlt] at hk;simp only[hgt k hk,List.getElem_take];exact h4 k (by omega) hk
 ·simp only at hr hg hk ⊢;rw[hS k r hk hr] at hr2 hg ⊢;exact ld_most_ge hk hr2 hg
 ·simp only[hlt] at hk hr hkb ⊢;rw[hS k r hkb hr];by_cases e1:(E.read ((f.first+k:Nat):Int)).2=0
  ·by_cases e2:goodB f.birth (E.read ((f.first+k:Nat):Int)).1=true
   ·have:=ld_most_ge (n:=f.blocks) hkb e1 e2;exact .inr (.inr (by omega))
   ·exact .inr (.inl (by simpa using e2))
  ·exact .inl e1
 ·simp only[hlt] at hk hr ⊢;rw[hlast,hS m r hk hr];exact h5 hk
 ·simp only[hlt] at hk hr;simp only[hgt k hk,List.getElem_take];left
  rw[hS k r (by omega) hr];exact h4 k (by omega) hk
theorem FileOk.again (h:FileOk D f ls safe) (hb:f.birth<18446744073709551616) (hl:f.life<9223372036854775808) (hE: ∀ k,k<f.blocks→May D (f.first+k) (D.read ((f.first+k:Nat):Int))):
  ∃ life,life≤f.life+1∧Fl.load D { f with frames:=[] }={ f with life:=life }∧FileOk D { f with life:=life } ls safe:=by
 obtain⟨m,h1,h2,h3,h4,h5⟩:=h.loads hb (by omega) hE;have hm:m=f.frames.length:=by
  rcases Nat.lt_or_ge m f.frames.length with hlt | hge
  ·have hfit:=h.fits;have hj:=h5 (by omega);have hn:=h.now m hlt;rw[hn] at hj;have hp:=h.small f.frames[m] (List.getElem_mem _);have hlm:ls.getD m 0<18446744073709551616:=by have:=h.top m hlt;omega
   rcases hj with hj | hj | hj
   ·exact absurd rfl hj
   ·simp only at hj;rw[frame_good hb hlm hp] at hj;cases hj
   ·simp only at hj;rw[frame_life hb hlm hp] at hj;unfold lastL at hj;split at hj
    ·omega
    ·have:=h.sorted (m - 1) (by omega);rw[show m - 1+1=m by omega] at this;omega
  ·omega
 subst hm;rw[List.take_length] at h3;refine⟨(ldRun D f.birth f.first f.blocks).most+1,by have:=h.most;omega,?_,?_⟩
 ·unfold Fl.load;simp only[List.nil_append];rw[h3,Nat.mod_eq_of_lt (by have:=h.most;omega)]
 have hge: ∀ k,k<f.frames.length→ls.getD k 0≤(ldRun D f.birth f.first f.blocks).most:=fun k hk=>by
  have hr:=h.now k hk;have hp:=h.small f.frames[k] (List.getElem_mem _);have hlk2:ls.getD k 0<18446744073709551616:=by have:=h.top k hk;omega
  have h9:=ld_most_ge (D:=D) (birth:=f.birth) (first:=f.first) (n:=f.blocks) (k:=k) (by have:=h.fits;omega) (by rw[hr]) (by rw[hr];exact frame_good hb hlk2 hp);rw[hr] at h9;rwa [frame_life hb hlk2 hp] at h9
 refine⟨h.len,h.fits,h.small,h.sorted,fun k hk=>?_,h.safeLe,h.now,h.all,Nat.le_succ _,fun e=>by simp only at e;omega,fun k r hk hkb hr=>?_,h.gap,h.lost⟩
 ·have:=hge k hk;simp only;omega
 ·by_cases e1:r.2=0
  ·by_cases e2:goodB f.birth r.1=true
   ·have:=h.all k r hkb hr e1 e2;exact .inr (.inr (by simp only;omega))
   ·exact .inr (.inl (by simpa using e2))
  ·exact .inl e1
end
def Dk.wr (D:Dk) (i:Nat) (b:List UInt8):Dk:={ D.took i b with off:=false }
section
variable {D E:Dk} {f:Fl} {ls:List Nat} {safe:Nat} {i j:Nat} {b:List UInt8} {r:List UInt8 × Int}
theorem wr_len:(D.wr i b).cells.length=D.cells.length:=rfl
theorem wr_off:(D.wr i b).off=false:=rfl
theorem wr_wf (hw:WfD D) (hi:i<D.cells.length) (hb:b.length=512):WfD (D.wr i b):=⟨(took_wf hw hi hb).pend⟩
theorem wr_may (hr:May (D.wr i b) j r):May D j r∨(j=i∧(r=(b,0)∨r=([],24))):=took_may D i j b hr
theorem wr_last (j:Nat):(D.wr i b).last j=if j=i then some b else D.last j:=took_last D i j b
theorem wr_read (h0:D.off=false) (hj:j<D.cells.length):(D.wr i b).read j=if j=i then (b,0) else D.read j:=by
 by_cases e:j=i
 ·rw[if_pos e];exact read_last _ j wr_off hj (by rw[wr_last,if_pos e])
 ·rw[if_neg e]
  cases hl:D.last j with
  | none=>
   rw[read_cell D j h0 hj hl];exact read_cell _ j wr_off hj (by rw[wr_last,if_neg e];exact hl)
  | some c=>
   rw[read_last D j h0 hj hl];exact read_last _ j wr_off hj (by rw[wr_last,if_neg e];exact hl)
theorem ld_congr {birth first:Nat}: ∀ n,(∀ k,k<n→E.read ((first+k:Nat):Int)=D.read ((first+k:Nat):Int))→ldRun E birth first n=ldRun D birth first n
 | 0,_=>rfl
 | n+1,h=>by
  unfold ldRun;rw[h n (by omega),ld_congr n (fun k hk=>h k (by omega))]
theorem FileOk.same (h:FileOk D f ls safe) (h1: ∀ k,k<f.blocks→E.read ((f.first+k:Nat):Int)=D.read ((f.first+k:Nat):Int)) (h2: ∀ k r,k<f.blocks→May E (f.first+k) r→May D (f.first+k) r):FileOk E f ls safe:=by
 have hfit:=h.fits;have hld:=ld_congr (D:=D) (E:=E) (birth:=f.birth) (first:=f.first) f.blocks h1;exact⟨h.len,h.fits,h.small,h.sorted,h.top,h.safeLe,fun k hk=>by rw[h1 k (by omega)];exact h.now k hk,fun k r hk hr=>by rw[hld];exact h.all k r hk (h2 k r hk hr),by rw[hld];exact h.most,by rw[hld];exact h.new,
  fun k r hk hkb hr=>h.behind k r hk hkb (h2 k r hkb hr),fun hk r hr=>h.gap hk r (h2 _ r hk hr),fun k hk r hr=>h.lost k hk r (h2 k r (by omega) hr)⟩
theorem FileOk.far (h:FileOk D f ls safe) (h0:D.off=false) (hn:f.first+f.blocks≤D.cells.length) (hi:i<f.first∨f.first+f.blocks≤i):FileOk (D.wr i b) f ls safe:=
 h.same (fun k hk=>by rw[wr_read h0 (by omega),if_neg (by omega)]) (fun k r hk hr=>by
  rcases wr_may hr with h1 | ⟨h1,_⟩
  ·exact h1
  ·omega)
theorem FileOk.flush (h:FileOk D f ls safe) (hw:WfD D) (h0:D.off=false) (hn:f.first+f.blocks≤D.cells.length):FileOk D.flush.1 f ls f.frames.length:=by
 have hl:D.flush.1.cells.length=D.cells.length:=by rw[flush_on D h0];exact lay_len _ _
 have ho:D.flush.1.off=false:=by rw[flush_on D h0];exact h0
 have hp:D.flush.1.pend=[]:=by rw[flush_on D h0]
 have hm: ∀ k r,k<f.blocks→May D.flush.1 (f.first+k) r→r=D.read ((f.first+k:Nat):Int):=fun k r hk hr=>by
  rw[may_nil _ _ hp ho (by omega) hr,flush_read D hw h0 _ (by omega)]
 have h2:=h.same (E:=D.flush.1) (fun k hk=>flush_read D hw h0 _ (by omega)) (fun k r hk hr=>by rw[hm k r hk hr];exact may_read D _ h0 (by omega));exact⟨h2.len,h2.fits,h2.small,h2.sorted,h2.top,Nat.le_refl _,h2.now,h2.all,h2.most,h2.new,h2.behind,h2.gap,fun k hk r hr=>by
  have:=h.fits;left
  rw[hm k r (by omega) hr];exact h.now k hk⟩
theorem getD_snoc {ls:List Nat} {x k:Nat} (h:k<ls.length):(ls++[x]).getD k 0=ls.getD k 0:=by
 rw[List.getD_eq_getElem?_getD,List.getD_eq_getElem?_getD,List.getElem?_append_left h]
theorem getD_end {ls:List Nat} {x:Nat}:(ls++[x]).getD ls.length 0=x:=by
 rw[List.getD_eq_getElem?_getD,List.getElem?_append_right (Nat.le_refl _),Nat.sub_self];rfl
theorem FileOk.append (h:FileOk D f ls safe) (h0:D.off=false) (hn:f.first+f.blocks≤D.cells.length) (hb:f.birth<18446744073709551616) (hl:f.life<9223372036854775808) {p:List UInt8} (hp:p.length≤480) (hlt:f.frames.length<f.blocks):
  FileOk (D.wr (f.first+f.frames.length) (frameB f.birth f.life p)) { f with frames:=f.frames++[p] } (ls++[f.life]) safe:=by
 have hlen:=h.len;have hl2:f.life<18446744073709551616:=by omega
 obtain⟨i,hi⟩: ∃ i,i=f.first+f.frames.length:=⟨_,rfl⟩;obtain⟨b,hbb⟩: ∃ b,b=frameB f.birth f.life p:=⟨_,rfl⟩;have g1:=frame_good hb hl2 hp;have g2:=frame_life hb hl2 hp;rw[←hbb] at g1 g2;rw[←hi, ←hbb];have hfl:(f.frames++[p]).length=f.frames.length+1:=by rw[List.length_append];rfl
 have hrd: ∀ k,k<f.blocks→(D.wr i b).read ((f.first+k:Nat):Int)=if k=f.frames.length then (b,0) else D.read ((f.first+k:Nat):Int):=fun k hk=>by
  rw[wr_read h0 (by omega)];by_cases e:k=f.frames.length
  ·rw[if_pos e,if_pos (by omega)]
  ·rw[if_neg e,if_neg (by omega)]
 have hmy: ∀ k r,k<f.blocks→May (D.wr i b) (f.first+k) r→May D (f.first+k) r∨(k=f.frames.length∧(r=(b,0)∨r=([],24))):=fun k r hk hr=>by
  rcases wr_may hr with h1 | ⟨h1,h2⟩
  ·exact .inl h1
  ·exact .inr ⟨by omega,h2⟩
 have hbig:f.life≤(ldRun (D.wr i b) f.birth f.first f.blocks).most:=by
  have h9:=ld_most_ge (D:=D.wr i b) (birth:=f.birth) (first:=f.first) (n:=f.blocks) (k:=f.frames.length) hlt (by rw[hrd _ hlt,if_pos rfl]) (by rw[hrd _ hlt,if_pos rfl];exact g1);rw[hrd _ hlt,if_pos rfl] at h9;rwa [g2] at h9
 have hsm:(ldRun (D.wr i b) f.birth f.first f.blocks).most≤f.life:=ld_most_bound f.blocks fun k hk e1 e2=>by
  rw[hrd k hk] at e1 e2 ⊢;by_cases e:k=f.frames.length
  ·rw[if_pos e,g2];exact Nat.le_refl _
  ·rw[if_neg e] at e1 e2 ⊢;exact Nat.le_trans (h.all k _ hk (may_read D _ h0 (by omega)) e1 e2) h.most
 have hm:=h.most;have hlk: ∀ k,k≤f.frames.length→lastL (ls++[f.life]) k=lastL ls k:=fun k hk=>by
  unfold lastL;split
  ·rfl
  ·exact getD_snoc (by omega)
 have hll:lastL (ls++[f.life]) (f.frames.length+1)=f.life:=by
  unfold lastL;rw[if_neg (by omega),Nat.add_sub_cancel, ←hlen];exact getD_end
 refine⟨by rw[List.length_append,hlen,hfl];rfl,by rw[hfl];exact hlt,fun q hq=>?_,fun k hk=>?_,fun k hk=>?_,by rw[hfl];have:=h.safeLe;omega,fun k hk=>?_,fun k r hk hr e1 e2=>?_,hsm,fun _=>⟨by rw[hfl];omega,by rw[hfl];exact hll⟩,fun k r hk hkb hr=>?_,fun hk r hr=>?_,fun k hk r hr=>?_⟩
 ·rcases List.mem_append.1 hq with hq | hq
  ·exact h.small q hq
  ·rw[List.mem_singleton] at hq;subst hq;exact hp
 ·rw[hfl] at hk;rw[getD_snoc (by omega)];by_cases e:k+1=f.frames.length
  ·have:(ls++[f.life]).getD (k+1) 0=f.life:=by rw[e, ←hlen];exact getD_end
   rw[this];exact h.top k (by omega)
  ·rw[getD_snoc (by omega)];exact h.sorted k (by omega)
 ·rw[hfl] at hk;by_cases e:k=f.frames.length
  ·have:(ls++[f.life]).getD k 0=f.life:=by rw[e, ←hlen];exact getD_end
   rw[this];exact Nat.le_refl _
  ·rw[getD_snoc (by omega)];exact h.top k (by omega)
 ·rw[hfl] at hk;show (D.wr i b).read ((f.first+k:Nat):Int)=_;rw[hrd k (by omega)];by_cases e:k=f.frames.length
  ·have e2:(ls++[f.life]).getD k 0=f.life:=by rw[e, ←hlen];exact getD_end
   rw[if_pos e,e2];have e3:(f.frames++[p])[k]'(by rw[hfl];omega)=p:=by simp[e]
   simp only[e3,hbb]
  ·rw[if_neg e,getD_snoc (by omega)];have e3:(f.frames++[p])[k]'(by rw[hfl];omega)=f.frames[k]'(by omega):=List.getElem_append_left (by omega);simp only[e3];exact h.now k (by omega)
 ·rcases hmy k r hk hr with h1 | ⟨_,h2 | h2⟩
  ·have:=h.all k r hk h1 e1 e2;show lifeB r.1≤(ldRun (D.wr i b) f.birth f.first f.blocks).most;omega
  ·rw[h2];show lifeB b≤(ldRun (D.wr i b) f.birth f.first f.blocks).most;rw[g2];exact hbig
  ·rw[h2] at e1;cases e1
 ·rw[hfl] at hk;rcases hmy k r hkb hr with h1 | ⟨h1,_⟩
  ·exact h.behind k r (by omega) hkb h1
  ·omega
 ·rw[hfl] at hk hr ⊢;rw[hll];rcases hmy _ r hk hr with h1 | ⟨h1,_⟩
  ·exact h.behind _ r (by omega) hk h1
  ·omega
 ·rw[hfl] at hk;rw[hlk k (by omega)];by_cases e:k=f.frames.length
  ·have e2:(ls++[f.life]).getD k 0=f.life:=by rw[e, ←hlen];exact getD_end
   have e3:(f.frames++[p])[k]'(by rw[hfl];omega)=p:=by simp[e]
   simp only[e2,e3];rcases hmy k r (by omega) hr with h1 | ⟨_,h2 | h2⟩
   ·subst e;exact .inr ⟨h.safeLe,h.gap hlt r h1⟩
   ·left;rw[h2,hbb]
   ·right
    refine⟨by have:=h.safeLe;omega,.inl ?_⟩;rw[h2];decide
  ·rw[getD_snoc (by omega)];have e3:(f.frames++[p])[k]'(by rw[hfl];omega)=f.frames[k]'(by omega):=List.getElem_append_left (by omega);simp only[e3];rcases hmy k r (by omega) hr with h1 | ⟨h1,_⟩
   ·exact h.lost k (by omega) r h1
   ·omega
theorem FileOk.fresh {num first blocks turn:Nat} (h: ∀ k r,k<blocks→May D (first+k) r→r.2=0→getN (r.1.take 8)<turn) (h0:D.off=false) (hn:first+blocks≤D.cells.length):FileOk D ⟨num,first,blocks,turn,1,[]⟩ [] 0:=by
 have hg: ∀ k r,k<blocks→May D (first+k) r→r.2=0→goodB turn r.1=false:=fun k r hk hr e=>by
  have:=h k r hk hr e;unfold goodB;exact decide_eq_false (by rintro ⟨h1,_⟩;omega)
 have hm:(ldRun D turn first blocks).most≤0:=ld_most_bound blocks fun k hk e1 e2=>by
  rw[hg k _ hk (may_read D _ h0 (by omega)) e1] at e2;cases e2
 have hj: ∀ k r x,k<blocks→May D (first+k) r→Junk turn x r:=fun k r x hk hr=>by
  by_cases e:r.2=0
  ·exact .inr (.inl (hg k r hk hr e))
  ·exact .inl e
 have no: ∀ k,¬ k<([]:List (List UInt8)).length:=fun k hk=>by simp at hk
 refine⟨rfl,Nat.zero_le _,by simp,fun k hk=>absurd hk (no _),fun k hk=>absurd hk (no k),Nat.zero_le _,fun k hk=>absurd hk (no k),fun k r hk hr e1 e2=>?_,?_,fun e=>?_,fun k r _ hk hr=>hj k r _ hk hr,fun hk r hr=>hj 0 r _ hk hr,fun k hk=>absurd hk (no k)⟩
 ·have h9:goodB turn r.1=true:=e2;rw[hg k r hk hr e1] at h9
  cases h9
 ·show (ldRun D turn first blocks).most≤1;omega
 ·have h9:(ldRun D turn first blocks).most=1:=e;omega
end
structure FsOk (n turn:Nat) (fs:List Fl):Prop where
 count:fs.length≤24
 nums:fs.Pairwise fun a b=>a.num<b.num
 apart:fs.Pairwise fun a b=>a.first+a.blocks≤b.first∨b.first+b.blocks≤a.first
 each: ∀ f ∈ fs,1≤f.num∧f.num<2147483648∧2≤f.first∧1≤f.blocks∧f.first+f.blocks≤n∧f.birth≤turn
structure Fils (D:Dk) (turn:Nat) (fs:List Fl) (sf:Nat→Nat) (lim:Nat):Prop where
 off:D.off=false
 wf:WfD D
 two:2≤D.cells.length
 most:D.cells.length≤65536
 ok:FsOk D.cells.length turn fs
 cap:turn≤lim∧lim≤1000000000
 each: ∀ f ∈ fs,f.life≤lim∧ ∃ ls,FileOk D f ls (sf f.num)
 births: ∀ i,2≤i→i<D.cells.length→ ∀ r,May D i r→r.2=0→getN (r.1.take 8)≤turn
structure Heads (D:Dk) (slot turn:Nat) (hs:List Hd):Prop where
 lt:slot<2
 here: ∀ r,May D slot r→r=(sealB turn hs,0)
 there: ∀ r,May D (1 - slot) r→r.2=0→ ∀ t gs,unsealB r.1=some (t,gs)→liesH D.cells.length gs=true→t<turn
structure Good (D:Dk) (S:Spc) (sf:Nat→Nat) (lim:Nat):Prop where
 fils:Fils D S.turn S.files sf lim
 heads:Heads D S.slot S.turn (S.files.map Fl.hd)
section
variable {D E:Dk} {S:Spc} {sf:Nat→Nat} {lim turn slot n:Nat} {fs:List Fl} {f:Fl}
theorem FsOk.hdOk (h:FsOk n turn fs) (hn:n≤65536) (ht:turn<9223372036854775807): ∀ x ∈ fs.map Fl.hd,HdOk x:=fun x hx=>by
 obtain⟨f,hf,rfl⟩:=List.mem_map.1 hx;obtain⟨h1,h2,h3,h4,h5,h6⟩:=h.each f hf;exact⟨by show f.num<_;omega,by show f.first<_;omega,by show f.blocks<_;omega,by show f.birth<_;omega⟩
theorem FsOk.lies (h:FsOk n turn fs):liesH n (fs.map Fl.hd)=true:=by
 unfold liesH;rw[List.all_eq_true];intro x hx;obtain⟨f,hf,rfl⟩:=List.mem_map.1 hx;obtain⟨h1,h2,h3,h4,h5,h6⟩:=h.each f hf;exact decide_eq_true ⟨h3,h4,by show (f.blocks:Int)≤n - f.first;omega⟩
theorem readX_heads {hs:List Hd} (h:Heads D slot turn hs) (h0:D.off=false) (h2:2≤D.cells.length) (ht:turn<18446744073709551616) (hn:hs.length≤24) (ho: ∀ x ∈ hs,HdOk x) (hl:liesH D.cells.length hs=true):
  readX D=(some ⟨slot,turn,hs.map Hd.fl⟩,0):=by
 have hu:=unseal_seal ht hn ho;have r1:=h.here _ (may_read D slot h0 (by have:=h.lt;omega));have hs2:=h.lt;have r2:=h.there _ (may_read D (1 - slot) h0 (by omega));unfold readX;rw[h0];simp only[Bool.false_eq_true,if_false];have hb: ∀ s:Option Spc,(∀ x,s=some x→x.turn<turn)→bestH D s slot=some ⟨slot,turn,hs.map Hd.fl⟩:=fun s hsx=>by
  unfold bestH;rw[r1];simp only[ne_eq,not_true_eq_false,if_false,hu];rw[if_pos];refine⟨hl,?_⟩
  cases s with
  | none=>rfl
  | some x=>exact decide_eq_true (hsx x rfl)
 have ha: ∀ x,bestH D none (1 - slot)=some x→x.turn<turn:=fun x hx=>by
  unfold bestH at hx;split at hx
  ·cases hx
  ·rename_i e;split at hx
   ·cases hx
   ·rename_i t gs e2;split at hx
    ·rename_i e3;injection hx with hx
     rw[←hx];exact r2 (by simpa using e) t gs e2 e3.1
    ·cases hx
 have hc:bestH D (some ⟨slot,turn,hs.map Hd.fl⟩) (1 - slot)=some ⟨slot,turn,hs.map Hd.fl⟩:=by
  unfold bestH;split
  ·rfl
  ·rename_i e;split
   ·rfl
   ·rename_i t gs e2;rw[if_neg];rintro ⟨e3,e4⟩;have:=r2 (by simpa using e) t gs e2 e3;have e5:turn<t:=of_decide_eq_true e4;omega
 have hcase:slot=0∨slot=1:=by omega
 rcases hcase with rfl | rfl
 ·have h1:=hb none (fun x e=>by cases e);rw[h1];rw[show bestH D (some ⟨0,turn,hs.map Hd.fl⟩) 1=some ⟨0,turn,hs.map Hd.fl⟩ from hc]
 ·rw[hb _ ha]
theorem Heads.sub {hs:List Hd} (h:Heads D slot turn hs) (hl:E.cells.length=D.cells.length) (h2:2≤D.cells.length) (hm: ∀ i r,i<D.cells.length→May E i r→May D i r):Heads E slot turn hs:=by
 have:=h.lt;exact⟨h.lt,fun r hr=>h.here r (hm slot r (by omega) hr),fun r hr=>by rw[hl];exact h.there r (hm _ r (by omega) hr)⟩
def lenAt (fs:List Fl) (num:Nat):Nat:=match fs.find? fun f=>f.num==num with | some f=>f.frames.length | none=>0
theorem find_num: ∀ {fs:List Fl},(fs.Pairwise fun a b=>a.num<b.num)→f ∈ fs→(fs.find? fun g=>g.num==f.num)=some f
 | [],_,h=>by cases h
 | g::gs,hp,h=>by
  rw[List.find?_cons];rcases List.mem_cons.1 h with rfl | h
  ·simp
  ·have:=(List.pairwise_cons.1 hp).1 f h;rw[show (g.num==f.num)=false by simp;omega];exact find_num (List.pairwise_cons.1 hp).2 h
theorem lenAt_mem (hp:fs.Pairwise fun a b=>a.num<b.num) (h:f ∈ fs):lenAt fs f.num=f.frames.length:=by
 unfold lenAt;rw[find_num hp h]
def Fewer (sf:Nat→Nat):List Fl→List Fl→Prop
 | [],[]=>True
 | f::fs,g::gs=>(g.num=f.num∧g.first=f.first∧g.blocks=f.blocks∧g.birth=f.birth∧ ∃ m,sf f.num≤m∧m≤f.frames.length∧g.frames=f.frames.take m)∧Fewer sf fs gs
 | _,_=>False
theorem Fewer.hd {sf:Nat→Nat}: ∀ {fs gs:List Fl},Fewer sf fs gs→gs.map Fl.hd=fs.map Fl.hd
 | [],[],_=>rfl
 | f::fs,g::gs,h=>by
  obtain⟨⟨h1,h2,h3,h4,_⟩,h5⟩:=h;rw[List.map_cons,List.map_cons,h5.hd];unfold Fl.hd;rw[h1,h2,h3,h4]
 | [],_::_,h=>h.elim
 | _::_,[],h=>h.elim
theorem FsOk.hd {gs:List Fl} (h:FsOk n turn fs) (e:gs.map Fl.hd=fs.map Fl.hd):FsOk n turn gs:=by
 have hl:gs.length=fs.length:=by have:=congrArg List.length e;simpa using this
 have hi: ∀ i (h1:i<gs.length),(gs[i].num=(fs[i]'(by omega)).num∧gs[i].first=(fs[i]'(by omega)).first)∧gs[i].blocks=(fs[i]'(by omega)).blocks∧gs[i].birth=(fs[i]'(by omega)).birth:=fun i h1=>by
  have h2:(gs.map Fl.hd)[i]?=(fs.map Fl.hd)[i]?:=by rw[e]
  rw[List.getElem?_map,List.getElem?_map,List.getElem?_eq_getElem h1,List.getElem?_eq_getElem (show i<fs.length by omega)] at h2;simp only[Option.map_some] at h2;injection h2 with h2
  unfold Fl.hd at h2;injection h2 with a b c d
  exact⟨⟨a,b⟩,c,d⟩
 refine⟨by rw[hl];exact h.count,?_,?_,fun g hg=>?_⟩
 ·rw[List.pairwise_iff_getElem];intro i j h1 h2 hij;have:=List.pairwise_iff_getElem.1 h.nums i j (by omega) (by omega) hij;rw[(hi i h1).1.1,(hi j h2).1.1];exact this
 ·rw[List.pairwise_iff_getElem];intro i j h1 h2 hij;have:=List.pairwise_iff_getElem.1 h.apart i j (by omega) (by omega) hij;rw[(hi i h1).1.2,(hi j h2).1.2,(hi i h1).2.1,(hi j h2).2.1];exact this
 ·obtain⟨i,h1,rfl⟩:=List.getElem_of_mem hg;have:=h.each (fs[i]'(by omega)) (List.getElem_mem _);rw[(hi i h1).1.1,(hi i h1).1.2,(hi i h1).2.1,(hi i h1).2.2];exact this
theorem load_hd (f:Fl):Fl.load E f.hd.fl=Fl.load E { f with frames:=[] }:=rfl
theorem fils_crash (h:Fils D turn fs sf lim) (hl:E.cells.length=D.cells.length) (hE: ∀ i,i<D.cells.length→May D i (E.read (i:Int))) (hS: ∀ i r,i<D.cells.length→May E i r→r=E.read (i:Int)):
  ∀ gs,(∀ f ∈ gs,f ∈ fs)→Fewer sf gs (gs.map fun f=>Fl.load E f.hd.fl)∧ ∀ g ∈ (gs.map fun f=>Fl.load E f.hd.fl),g.life≤lim+1∧ ∃ ls,FileOk E g ls g.frames.length
 | [],_=>⟨trivial,by simp⟩
 | f::gs,hg=>by
  have hf:=hg f (by simp);obtain⟨i1,i2⟩:=fils_crash h hl hE hS gs (fun x hx=>hg x (List.mem_cons_of_mem _ hx));obtain⟨h1,ls,h2⟩:=h.each f hf;obtain⟨a1,a2,a3,a4,a5,a6⟩:=h.ok.each f hf;have hlim:=h.cap;obtain⟨m,b1,b2,life,b3,b4,b5⟩:=h2.crashed (E:=E) (by omega) (by omega) (fun k hk=>hE _ (by omega)) (fun k r hk hr=>hS _ r (by omega) hr);rw[List.map_cons,load_hd,b4];refine⟨⟨⟨rfl,rfl,rfl,rfl,m,b1,b2,rfl⟩,i1⟩,fun g hg=>?_⟩;rcases List.mem_cons.1 hg with rfl | hg
  ·refine⟨by show life≤lim+1;omega,ls.take m,?_⟩;have e:(f.frames.take m).length=m:=by rw[List.length_take];omega
   have:({ f with life:=life,frames:=f.frames.take m }:Fl).frames.length=m:=e;rw[this];exact b5
  ·exact i2 g hg
theorem load_again (h:Fils D turn fs sf lim): ∀ gs,(∀ f ∈ gs,f ∈ fs)→Fewer (fun num=>lenAt fs num) gs (gs.map fun f=>Fl.load D f.hd.fl)∧ ∀ g ∈ (gs.map fun f=>Fl.load D f.hd.fl),g.life≤lim+1∧ ∃ ls,FileOk D g ls (sf g.num)
 | [],_=>⟨trivial,by simp⟩
 | f::gs,hg=>by
  have hf:=hg f (by simp);obtain⟨i1,i2⟩:=load_again h gs (fun x hx=>hg x (List.mem_cons_of_mem _ hx));obtain⟨h1,ls,h2⟩:=h.each f hf;obtain⟨a1,a2,a3,a4,a5,a6⟩:=h.ok.each f hf;have hlim:=h.cap;obtain⟨life,b3,b4,b5⟩:=h2.again (by omega) (by omega) (fun k hk=>may_read D _ h.off (by omega));rw[List.map_cons,load_hd,b4];refine⟨⟨⟨rfl,rfl,rfl,rfl,f.frames.length,by show lenAt fs f.num≤_;rw[lenAt_mem h.ok.nums hf];exact Nat.le_refl _,Nat.le_refl _,(List.take_length).symm⟩,i1⟩,fun g hg=>?_⟩;rcases List.mem_cons.1 hg with rfl | hg
  ·exact⟨by show life≤lim+1;omega,ls,b5⟩
  ·exact i2 g hg
theorem openX_read {s:Spc} (h:readX D=(some s,0)):openX D=(some { s with files:=s.files.map (Fl.load D) },0):=by
 unfold openX;rw[h];rfl
structure Came (D E:Dk):Prop where
 off:E.off=false
 wf:WfD E
 len:E.cells.length=D.cells.length
 may: ∀ i,i<D.cells.length→May D i (E.read (i:Int))
 one: ∀ i r,i<D.cells.length→May E i r→r=E.read (i:Int)
theorem came_crash {keep:List Bool} {torn bytes:Int} (hw:WfD D):Came D (D.crash keep torn bytes):=
 ⟨crash_off,crash_wf,crash_len,fun i hi=>crash_may hw i hi,fun i r hi hr=>may_nil _ i crash_pend crash_off (by rw[crash_len];exact hi) hr⟩
theorem Came.sub (h:Came D E): ∀ i r,i<D.cells.length→May E i r→May D i r:=fun i r hi hr=>by rw[h.one i r hi hr];exact h.may i hi
theorem found (hlim2:lim+1≤1000000000) (hf:Fils D turn fs sf lim) (hc:Came D E) (hh:Heads E slot turn (fs.map Fl.hd)): ∃ gs,openX E=(some ⟨slot,turn,gs⟩,0)∧Fewer sf fs gs∧Good E ⟨slot,turn,gs⟩ (lenAt gs) (lim+1):=by
 have hlim:=hf.cap;have hr:=readX_heads hh hc.off (by rw[hc.len];exact hf.two) (by omega) (by rw[List.length_map];exact hf.ok.count) (hf.ok.hdOk hf.most (by omega)) (by rw[hc.len];exact hf.ok.lies);obtain⟨h1,h2⟩:=fils_crash hf hc.len hc.may hc.one fs (fun _ h=>h);refine⟨fs.map fun f=>Fl.load E f.hd.fl,?_,h1,⟨?_,?_⟩⟩
 ·rw[openX_read hr];simp only[List.map_map];rfl
 ·have hok:FsOk E.cells.length turn (fs.map fun f=>Fl.load E f.hd.fl):=by rw[hc.len];exact hf.ok.hd h1.hd
  refine⟨hc.off,hc.wf,by rw[hc.len];exact hf.two,by rw[hc.len];exact hf.most,hok,?_,fun g hg=>?_,fun i hi hin r hr e=>?_⟩
  ·exact⟨by show turn≤lim+1;omega,hlim2⟩
  ·rw[lenAt_mem hok.nums hg];exact h2 g hg
  ·rw[hc.len] at hin;exact hf.births i hi hin r (hc.sub i r hin hr) e
 ·show Heads E slot turn _;rw[h1.hd];exact hh
theorem heads_far {hs:List Hd} {i:Nat} {b:List UInt8} (h:Heads D slot turn hs) (hi:2≤i):Heads (D.wr i b) slot turn hs:=by
 have:=h.lt;refine⟨h.lt,fun r hr=>?_,fun r hr=>?_⟩
 ·rcases wr_may hr with h1 | ⟨h1,_⟩
  ·exact h.here r h1
  ·omega
 ·rcases wr_may hr with h1 | ⟨h1,_⟩
  ·exact h.there r h1
  ·omega
def Spc.grow (S:Spc) (num:Nat) (p:List UInt8):Spc:={ S with files:=S.files.map fun g=>if g.num=num then { g with frames:=g.frames++[p] } else g }
theorem grow_hd (S:Spc) (num:Nat) (p:List UInt8):(S.grow num p).files.map Fl.hd=S.files.map Fl.hd:=by
 unfold Spc.grow;simp only[List.map_map];apply List.map_congr_left;intro g _;simp only[Function.comp];split<;>rfl
theorem num_inj: ∀ {fs:List Fl},(fs.Pairwise fun a b=>a.num<b.num)→ ∀ {f g:Fl},f ∈ fs→g ∈ fs→f.num=g.num→f=g:=by
 intro fs hp f g hf hg e;have h1:=find_num hp hf;have h2:=find_num hp hg;rw[e,h2] at h1;injection h1 with h1
 exact h1.symm
theorem apart_of (h:FsOk n turn fs) {g:Fl} (hf:f ∈ fs) (hg:g ∈ fs) (hne:f.num≠g.num):f.first+f.blocks≤g.first∨g.first+g.blocks≤f.first:=by
 obtain⟨i,hi,rfl⟩:=List.getElem_of_mem hf;obtain⟨j,hj,rfl⟩:=List.getElem_of_mem hg;have hij:i≠j:=by rintro rfl;exact hne rfl
 rcases Nat.lt_or_ge i j with h1 | h1
 ·exact List.pairwise_iff_getElem.1 h.apart i j hi hj h1
 ·exact(List.pairwise_iff_getElem.1 h.apart j i hj hi (by omega)).symm
theorem good_append (h:Good D S sf lim) (hf:f ∈ S.files) {p:List UInt8} (hp:p.length≤480) (hlt:f.frames.length<f.blocks):Good (D.wr (f.first+f.frames.length) (frameB f.birth f.life p)) (S.grow f.num p) sf lim:=by
 have hF:=h.fils;obtain⟨a1,a2,a3,a4,a5,a6⟩:=hF.ok.each f hf;obtain⟨l1,ls,l2⟩:=hF.each f hf;have hlim:=hF.cap;refine⟨⟨rfl,wr_wf hF.wf (by omega) (frame_len hp),hF.two,hF.most,hF.ok.hd (grow_hd S f.num p),hlim,fun g hg=>?_,fun i hi hin r hr e=>?_⟩,?_⟩
 ·unfold Spc.grow at hg;simp only[List.mem_map] at hg;obtain⟨x,hx,rfl⟩:=hg;by_cases e:x.num=f.num
  ·obtain rfl:=num_inj hF.ok.nums hx hf e;rw[if_pos rfl];exact⟨l1,_,l2.append hF.off a5 (by omega) (by omega) hp hlt⟩
  ·rw[if_neg e];obtain⟨m1,ms,m2⟩:=hF.each x hx;obtain⟨c1,c2,c3,c4,c5,c6⟩:=hF.ok.each x hx;refine⟨m1,ms,m2.far hF.off c5 ?_⟩;rcases apart_of hF.ok hf hx (fun q=>e q.symm) with q | q
   ·left;omega
   ·right;omega
 ·rcases wr_may hr with h1 | ⟨h1,h2 | h2⟩
  ·exact hF.births i hi hin r h1 e
  ·rw[h2];show getN ((frameB f.birth f.life p).take 8)≤S.turn;rw[frame_birth (by omega) (by omega) hp];exact a6
  ·rw[h2] at e;cases e
 ·show Heads _ S.slot S.turn _;rw[grow_hd];exact heads_far h.heads (by omega)
theorem came_flush (hw:WfD D) (h0:D.off=false):Came D D.flush.1:=by
 have hl:D.flush.1.cells.length=D.cells.length:=by rw[flush_on D h0];exact lay_len _ _
 have ho:D.flush.1.off=false:=by rw[flush_on D h0];exact h0
 have hp:D.flush.1.pend=[]:=by rw[flush_on D h0]
 exact⟨ho,⟨fun x hx=>by rw[hp] at hx;cases hx⟩,hl,fun i hi=>by rw[flush_read D hw h0 i hi];exact may_read D i h0 hi,fun i r hi hr=>may_nil _ i hp ho (by omega) hr⟩
theorem fils_flush (hF:Fils D turn fs sf lim):Fils D.flush.1 turn fs (lenAt fs) lim:=by
 have hc:=came_flush hF.wf hF.off;refine⟨hc.off,hc.wf,by rw[hc.len];exact hF.two,by rw[hc.len];exact hF.most,by rw[hc.len];exact hF.ok,hF.cap,fun g hg=>?_,fun i hi hin r hr e=>hF.births i hi (by rw[hc.len] at hin;exact hin) r (hc.sub i r (by rw[hc.len] at hin;exact hin) hr) e⟩;obtain⟨m1,ms,m2⟩:=hF.each g hg;rw[lenAt_mem hF.ok.nums hg];exact⟨m1,ms,m2.flush hF.wf hF.off (hF.ok.each g hg).2.2.2.2.1⟩
theorem good_flush (h:Good D S sf lim):Good D.flush.1 S (lenAt S.files) lim:=by
 have hc:=came_flush h.fils.wf h.fils.off;exact⟨fils_flush h.fils,h.heads.sub hc.len h.fils.two hc.sub⟩
structure Next (D:Dk) (S:Spc) (sf:Nat→Nat) (fs:List Fl) (sg:Nat→Nat):Prop where
 ok:FsOk D.cells.length (S.turn+1) fs
 each: ∀ f ∈ fs,(f ∈ S.files∧sg f.num≤sf f.num)∨(f=⟨f.num,f.first,f.blocks,S.turn+1,1,[]⟩∧sg f.num=0)
section
variable {sg:Nat→Nat} {gs:List Fl}
theorem fils_head (h:Good D S sf lim) (hn:Next D S sf gs sg) (hlim:lim+1≤1000000000) {b:List UInt8} (hb:b.length=512):Fils (D.wr (1 - S.slot) b) (S.turn+1) gs sg (lim+1)∧Fils (D.wr (1 - S.slot) b) S.turn S.files sf lim:=by
 have hF:=h.fils;have hs:=h.heads.lt;have h2:=hF.two;have hl:=hF.cap;have hw:=wr_wf (i:=1 - S.slot) (b:=b) hF.wf (by omega) hb;have hbi: ∀ i,2≤i→i<D.cells.length→ ∀ r,May (D.wr (1 - S.slot) b) i r→r.2=0→getN (r.1.take 8)≤S.turn:=fun i hi hin r hr e=>by
  rcases wr_may hr with h1 | ⟨h1,_⟩
  ·exact hF.births i hi hin r h1 e
  ·omega
 refine⟨⟨rfl,hw,h2,hF.most,hn.ok,⟨by omega,hlim⟩,fun f hf=>?_,fun i hi hin r hr e=>Nat.le_succ_of_le (hbi i hi hin r hr e)⟩,⟨rfl,hw,h2,hF.most,hF.ok,hl,fun f hf=>?_,hbi⟩⟩
 ·obtain⟨a1,a2,a3,a4,a5,a6⟩:=hn.ok.each f hf;rcases hn.each f hf with ⟨e1,e2⟩ | ⟨e1,e2⟩
  ·obtain⟨m1,ms,m2⟩:=hF.each f e1;exact⟨by omega,ms,(m2.far hF.off a5 (.inl (by omega))).less e2⟩
  ·rw[e2,e1];refine⟨by show 1≤lim+1;omega,[],FileOk.fresh (fun k r hk hr e=>?_) rfl a5⟩;have:=hbi _ (by omega) (by show f.first+k<D.cells.length;omega) r hr e;omega
 ·obtain⟨a1,a2,a3,a4,a5,a6⟩:=hF.ok.each f hf;obtain⟨m1,ms,m2⟩:=hF.each f hf;exact⟨m1,ms,m2.far hF.off a5 (.inl (by omega))⟩
theorem heads_new (h:Good D S sf lim) (hn:Next D S sf gs sg) (hc:Came (D.wr (1 - S.slot) (sealB (S.turn+1) (gs.map Fl.hd))) E):
  Heads E S.slot S.turn (S.files.map Fl.hd)∨Heads E (1 - S.slot) (S.turn+1) (gs.map Fl.hd):=by
 have hF:=h.fils;have hs:=h.heads.lt;have h2:=hF.two;have hl:=hF.cap;have hold: ∀ r,May E S.slot r→r=(sealB S.turn (S.files.map Fl.hd),0):=fun r hr=>by
  rcases wr_may (hc.sub S.slot r (by show S.slot<D.cells.length;omega) hr) with h1 | ⟨h1,_⟩
  ·exact h.heads.here r h1
  ·omega
 by_cases he:E.read ((1 - S.slot:Nat):Int)=(sealB (S.turn+1) (gs.map Fl.hd),0)
 ·right
  refine⟨by omega,fun r hr=>?_,fun r hr e t g hu hli=>?_⟩
  ·rw[hc.one _ r (by show 1 - S.slot<D.cells.length;omega) hr,he]
  ·rw[show 1 - (1 - S.slot)=S.slot by omega] at hr;have h3:=hold r hr;rw[h3] at hu;rw[unseal_seal (by omega) (by rw[List.length_map];exact hF.ok.count) (hF.ok.hdOk hF.most (by omega))] at hu;injection hu with hu
   injection hu with h4 h5
   omega
 ·left
  refine⟨hs,hold,fun r hr e t g hu hli=>?_⟩;have hr2:=hc.one _ r (by show 1 - S.slot<D.cells.length;omega) hr;rcases wr_may (hc.sub (1 - S.slot) r (by show 1 - S.slot<D.cells.length;omega) hr) with h1 | ⟨_,h1 | h1⟩
  ·rw[hc.len] at hli;exact h.heads.there r h1 e t g hu hli
  ·rw[←hr2] at he;exact absurd h1 he
  ·rw[h1] at e;cases e
theorem found_head (h:Good D S sf lim) (hn:Next D S sf gs sg) (hlim:lim+2≤1000000000) (hc:Came (D.wr (1 - S.slot) (sealB (S.turn+1) (gs.map Fl.hd))) E):
  (∃ fs',openX E=(some ⟨S.slot,S.turn,fs'⟩,0)∧Fewer sf S.files fs'∧Good E ⟨S.slot,S.turn,fs'⟩ (lenAt fs') (lim+1))∨
  (∃ fs',openX E=(some ⟨1 - S.slot,S.turn+1,fs'⟩,0)∧Fewer sg gs fs'∧Good E ⟨1 - S.slot,S.turn+1,fs'⟩ (lenAt fs') (lim+2)):=by
 obtain⟨f1,f2⟩:=fils_head h hn (by omega) (b:=sealB (S.turn+1) (gs.map Fl.hd)) (sealB_len (by rw[List.length_map];exact hn.ok.count));rcases heads_new h hn hc with h1 | h1
 ·exact .inl (found (by omega) f2 hc h1)
 ·exact .inr (found (by omega) f1 hc h1)
theorem good_put (h:Good D S sf lim) (hn:Next D S sf gs sg) (hlim:lim+1≤1000000000):Good (D.wr (1 - S.slot) (sealB (S.turn+1) (gs.map Fl.hd))).flush.1 ⟨1 - S.slot,S.turn+1,gs⟩ (lenAt gs) (lim+1):=by
 obtain⟨f1,f2⟩:=fils_head h hn (by omega) (b:=sealB (S.turn+1) (gs.map Fl.hd)) (sealB_len (by rw[List.length_map];exact hn.ok.count));have hc:=came_flush f1.wf f1.off;refine⟨fils_flush f1,?_⟩;have hF:=h.fils;have hs:=h.heads.lt;have h2:=hF.two;have hl:=hF.cap;have he:(D.wr (1 - S.slot) (sealB (S.turn+1) (gs.map Fl.hd))).flush.1.read ((1 - S.slot:Nat):Int)=(sealB (S.turn+1) (gs.map Fl.hd),0):=by
  rw[flush_read _ f1.wf f1.off _ (by show 1 - S.slot<D.cells.length;omega),wr_read hF.off (by omega),if_pos rfl]
 refine⟨by show 1 - S.slot<2;omega,fun r hr=>?_,fun r hr e t g hu hli=>?_⟩
 ·rw[hc.one _ r (by show 1 - S.slot<D.cells.length;omega) hr,he]
 ·simp only at hr;rw[show 1 - (1 - S.slot)=S.slot by omega] at hr;rcases wr_may (hc.sub S.slot r (by show S.slot<D.cells.length;omega) hr) with h1 | ⟨h1,_⟩
  ·have h3:=h.heads.here r h1;rw[h3] at hu;rw[unseal_seal (by omega) (by rw[List.length_map];exact hF.ok.count) (hF.ok.hdOk hF.most (by omega))] at hu;injection hu with hu
   injection hu with h4 h5
   show t<S.turn+1;omega
  ·omega
end
theorem found_crash (h:Good D S sf lim) (hlim:lim+1≤1000000000) (hc:Came D E): ∃ gs,openX E=(some ⟨S.slot,S.turn,gs⟩,0)∧Fewer sf S.files gs∧Good E ⟨S.slot,S.turn,gs⟩ (lenAt gs) (lim+1):=
 found hlim h.fils hc (h.heads.sub hc.len h.fils.two hc.sub)
theorem found_again (h:Good D S sf lim) (hlim:lim+1≤1000000000): ∃ gs,openX D=(some ⟨S.slot,S.turn,gs⟩,0)∧Fewer (lenAt S.files) S.files gs∧Good D ⟨S.slot,S.turn,gs⟩ sf (lim+1):=by
 have hf:=h.fils;have hl:=hf.cap;have hr:=readX_heads h.heads hf.off hf.two (by omega) (by rw[List.length_map];exact hf.ok.count) (hf.ok.hdOk hf.most (by omega)) hf.ok.lies;obtain⟨h1,h2⟩:=load_again hf S.files (fun _ h=>h);refine⟨S.files.map fun f=>Fl.load D f.hd.fl,?_,h1,⟨⟨hf.off,hf.wf,hf.two,hf.most,hf.ok.hd h1.hd,⟨by show S.turn≤lim+1;omega,hlim⟩,h2,hf.births⟩,?_⟩⟩
 ·rw[openX_read hr];simp only[List.map_map];rfl
 ·show Heads D S.slot S.turn _;rw[h1.hd];exact h.heads
end
end Go.Proofs.YtmbaiglpgaoogaaGreat
