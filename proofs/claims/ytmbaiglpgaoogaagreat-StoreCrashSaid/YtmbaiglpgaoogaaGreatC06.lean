/- Joined, as they were built one by one: Blk6 ExtD ExtB ExtL ExtG ExtS ExtW Ext0 Ext1 Ext2. -/
import Derived.Deep.CutBlock
import Derived.Test.YtmbaiglpgaoogaaGreatC02
import Derived.Test.YtmbaiglpgaoogaaGreatC04
set_option maxHeartbeats 16000000
set_option linter.unusedVariables false
set_option maxRecDepth 100000
namespace Go.Proofs.YtmbaiglpgaoogaaGreat
open Go.RowKit Z
def kE (torn bytes:Int) (i:Nat):Bool:=decide ((i:Int)=torn/\1<=bytes/\bytes<512)
def uy (keep:List Bool) (i:Nat):Bool:=keep[i]?.getD false
def lD (keep:List Bool) (torn bytes:Int) (cells:List (List UInt8 × Bool)) (x:(Nat × List UInt8) × Nat):List (List UInt8 × Bool):=
 if kE torn bytes x.2 then cells.set x.1.1 ([],true) else if uy keep x.2 then lay cells x.1 else cells
def rJ (keep:List Bool) (torn bytes:Int) (cells:List (List UInt8 × Bool)) (ps:List (Nat × List UInt8)):List (List UInt8 × Bool):=ps.zipIdx.foldl (lD keep torn bytes) cells
def Dk.on (D:Dk) (keep:List Bool) (torn bytes:Int):Dk:=if D.off then ⟨rJ keep torn bytes D.cells D.pend,[],0,D.writes,false⟩ else D
def Fb (keep:List Bool) (torn bytes:Int) (cs:List (cW × Bool)) (x:(Nat × cW) × Nat):List (cW × Bool):=
 if kE torn bytes x.2 then cs.set x.1.1 ((none,0,[]),true) else if uy keep x.2 then sX cs x.1 else cs
theorem GF (keep:List Bool) (torn bytes:Int): ∀ (xs:List ((Nat × cW) × Nat)) (cs:List (cW × Bool)),(xs.foldl (Fb keep torn bytes) cs).map (fun x=>(x.1.2.2,x.2))=
 (xs.map fun x=>((x.1.1,x.1.2.2.2),x.2)).foldl (lD keep torn bytes) (cs.map fun x=>(x.1.2.2,x.2))
 | [],cs=>rfl
 | x::xs,cs=>by
  rw[List.foldl_cons,GF keep torn bytes xs,List.map_cons,List.foldl_cons];congr 1
  unfold Fb lD;dsimp only;split
  .rw[List.map_set]
  .split
   .exact wQ cs x.1
   .rfl
theorem zip_map (ps:List (Nat × cW)):(ps.zipIdx).map (fun x=>((x.1.1,x.1.2.2.2),x.2))=(ps.map fun x=>(x.1,x.2.2.2)).zipIdx:=by
 rw[List.zipIdx_map];rfl
theorem Im {α:Type} (ps:List α) (k:Nat) (h:k<ps.length):ps.zipIdx.take (k+1)=ps.zipIdx.take k++[(ps[k],k)]:=by
 rw[List.take_succ_eq_append_getElem (by simpa using h)];simp
theorem LD (d:Nat) (D:Dk) (Kp:Option Addr) (kc:Nat) (keep:List Bool) (torn bytes:Int) (w0 w:World) (F:SP) (h:Sat w0 (ae d D*(Ro Kp (keep.map Value.bool)*F)) w) (hw2:D.pend.length<=1000000000) (hkc:keep.length<=9223372036854775807):
 Calls Tryz.prog 39 #[.pointer (some ⟨d,0,none⟩),.slice Kp keep.length kc,.int .i64 torn,.int .i64 bytes] w fun e w'=>e = .returned (.tuple #[])/\Sat w0 (ae d (D.on keep torn bytes)*(Ro Kp (keep.map Value.bool)*F)) w':=by
 have HH:=ah h;by_cases ho:D.off=true
 .have HP:Hid (D.on keep torn bytes=⟨rJ keep torn bytes D.cells D.pend,[],0,D.writes,false⟩):=by unfold Hid Dk.on;rw[if_pos ho]
  obtain⟨C,cc,M,nm,vp,cs,ps,hr,hn,hs⟩:=h.nS;have hc5:=hs.head.c5;have hc1:=hs.head.c1;rw[ho] at hc5;have hpl:D.pend.length=ps.length:=by rw[hr.pend];simp
  rw[hpl] at hw2;obtain⟨A1,c1,rfl,hle,hmx⟩:=(hs.of cI).bD.aT;have HS:=ah hs;have HR:=ah hr;have HN:=ah hn;unfold maxLen at hmx;clear ho hr hn hs h hpl;go_enter Tryz.func39, Tryz.ntmps39;go_wp2_with fail;go_loopw [8,20] (fun _ i wr=> ∃ k:Nat,k<=ps.length/\i = .int .i64 k/\Hid (MH cs ((ps.zipIdx.take k).foldl (Fb keep torn bytes) cs) ps/\Sat w0 (eu d C cc M nm (.slice A1 ps.length c1) ((ps.zipIdx.take k).foldl (Fb keep torn bytes) cs) ps D.armed D.writes D.off*(Ro Kp (keep.map Value.bool)*F)) wr)) (fun _ i _=>ps.length - (intOf i).toNat)
  case atStart=>exact⟨0,by omega,rfl,⟨rfl,HR.o.fitc⟩,HS.o⟩
  case round=>
   obtain⟨k,hk,rfl,HD⟩:=hrel;by_cases hlt:k<ps.length
   .obtain⟨g,rfl,hg⟩:=(HD.o.2.of cI).bD.nY (by omega);have q0:=hg (k*2) (by rw[cN (fun _=>rfl)];omega);have q1:=hg (k*2+1) (by rw[cN (fun _=>rfl)];omega);have e0:(ps.flatMap kG)[k*2]'(by rw[cN (fun _=>rfl)];omega) = .int .i64 ps[k].1:=by
     have:=mz (f:=kG) (fun _=>rfl) ps k 0 hlt (by omega);exact Option.some.inj ((List.getElem?_eq_getElem _).symm.trans this)
    have e1:(ps.flatMap kG)[k*2+1]'(by rw[cN (fun _=>rfl)];omega)=CB ps[k].2:=by
     have:=mz (f:=kG) (fun _=>rfl) ps k 1 hlt (by omega);exact Option.some.inj ((List.getElem?_eq_getElem _).symm.trans this)
    rw[e0] at q0;rw[e1] at q1;have hfp:=HR.o.fitp ps[k] (List.getElem_mem hlt);have HT:Hid ((ps.zipIdx.take (k+1)).foldl (Fb keep torn bytes) cs=Fb keep torn bytes ((ps.zipIdx.take k).foldl (Fb keep torn bytes) cs) (ps[k],k)):=by
     rw[Im ps k hlt,List.foldl_append];rfl
    have HM:=ah (List.getElem_mem hlt);have hat:ps[k].1<cs.length:=hfp.2.2;have HF:=ah hfp;clear hg e0 e1 hfp;generalize ps[k]=p at*
    obtain⟨a,As,cz,ls⟩:=p;simp only[CB] at q0 q1 hat;generalize (ps.zipIdx.take k).foldl (Fb keep torn bytes) cs=cs1 at*
    have h2:=HD.o.2.af 140 #[.int .i64 a,.slice As ls.length cz];have hlc:cs1.length=cs.length:=HD.o.1.len;have HS2:=ah h2;clear h2;rw[<-hlc] at hat;clear hlc;have hki:(k:Int)<=1000000000:=by omega
    go_upto_region 4 with fail;obtain⟨w2,hw2'⟩: ∃ w2,w2=wr.alloc (.cells #[.int .i64 a,.slice As ls.length cz] 140):=⟨_,rfl⟩;obtain⟨b,hb⟩: ∃ b,b=wr.heap.size:=⟨_,rfl⟩;rw[<-hw2', <-hb] at HS2;rw[<-hw2', <-hb];clear hw2' hb q0 q1;go_cut [25] (fun s wx=>s = .bool (kE torn bytes k)/\Hid (wx=w2))
    case first=>
     by_cases g1:(k:Int)=torn
     .have g1':((k:Int)==torn)=true:=by rw[beq_iff_eq];exact g1
      by_cases g2:1<=bytes
      .by_cases g3:bytes<512
       .have e:kE torn bytes k=true:=by unfold kE;exact decide_eq_true ⟨g1,g2,g3⟩
        have E:=ah e;clear e g1;go_wp2_with fail;go_meet
        exact⟨by rw[E.o],rfl⟩
       .have e:kE torn bytes k=false:=by unfold kE;exact decide_eq_false fun h=>g3 h.2.2
        have E:=ah e;clear e g1;go_wp2_with fail;go_meet
        exact⟨by rw[E.o],rfl⟩
      .have e:kE torn bytes k=false:=by unfold kE;exact decide_eq_false fun h=>g2 h.2.1
       have E:=ah e;clear e g1;go_wp2_with fail;go_meet
       exact⟨by rw[E.o],rfl⟩
     .have g1':((k:Int)==torn)=false:=by rw[beq_eq_false_iff_ne];exact g1
      have e:kE torn bytes k=false:=by unfold kE;exact decide_eq_false fun h=>g1 h.1
      have E:=ah e;clear e g1;go_wp2_with fail;go_meet
      exact⟨by rw[E.o],rfl⟩
    case rest=>
     obtain⟨rfl,HW⟩:=hcut;have hw:=HW.o;subst hw;have q2:=HS2.o.cell 0;have q3:=HS2.o.cell 1;have q4:=HS2.o.right.head.c0;have q5:=HS2.o.right.lS (a*2);have q6:=HS2.o.right.lS (a*2+1);obtain⟨q7,q8⟩:=HS2.o.right.wF hat
     cases ht:kE torn bytes k with
     | true=>
      have HTT:=ah ht;clear ht;go_wp2_with fail;go_region
      go_wp2_with fail;go_roundw
      case rel=>
       refine⟨k+1,by omega,by go_num,?_⟩;rw[HT.o,Fb];dsimp only;rw[if_pos HTT.o];exact⟨HD.o.1.put ⟨⟨fun _=>⟨rfl,rfl⟩,fun _=>rfl,Nat.le_refl _,by show (0:Nat)<=_;omega⟩,.inl rfl⟩,(HS2.o.right.qz a ((none,0,[]),true) hat (.inr rfl)).drew⟩
      case measure=>simp[intOf];omega
     | false=>
      have HTT:=ah ht;clear ht;have HK:Hid (∀ hk:k<keep.length, ∃ b o,Kp=some ⟨b,o,none⟩/\wc.cell? ⟨b,o+k,none⟩=some (.bool keep[k])):=fun hk=>by
       have h1:=HS2.o.right.av.rdv.get (j:=k) (by simpa using hk);obtain⟨b,o,e,hc⟩:=h1;exact⟨b,o,e,by rw[hc];simp⟩
      by_cases g1:k<keep.length
      .obtain⟨bk,ok,rfl,hck⟩:=HK.o g1;have HB:Hid (uy keep k=keep[k]):=by unfold Hid uy;rw[List.getElem?_eq_getElem g1];rfl
       have g1':(k:Int)<keep.length:=by omega
       cases hkk:keep[k] with
       | true=>
        rw[hkk] at hck HB;clear hkk;go_wp2_with fail;go_region
        go_wp2_with fail;go_roundw
        case rel=>
         refine⟨k+1,by omega,by go_num,?_⟩;rw[HT.o,Fb];dsimp only;rw[if_neg (by rw[HTT.o];decide),if_pos HB.o];exact⟨HD.o.1.put ⟨HF.o.1,.inr HF.o.2.1⟩,(HS2.o.right.qz a ((As,cz,ls),false) hat (.inl (List.mem_map_of_mem (f:=Prod.snd) HM.o))).drew⟩
        case measure=>simp[intOf];omega
       | false=>
        rw[hkk] at hck HB;clear hkk;go_wp2_with fail;go_roundw
        case rel=>
         refine⟨k+1,by omega,by go_num,?_⟩;rw[HT.o,Fb];dsimp only;rw[if_neg (by rw[HTT.o];decide),if_neg (by rw[HB.o];decide)];exact⟨HD.o.1,HS2.o.right⟩
        case measure=>simp[intOf];omega
      .have HB:Hid (uy keep k=false):=by unfold Hid uy;rw[List.getElem?_eq_none (by omega)];rfl
       have g1':¬ (k:Int)<keep.length:=by omega
       go_wp2_with fail;go_roundw
       case rel=>
        refine⟨k+1,by omega,by go_num,?_⟩;rw[HT.o,Fb];dsimp only;rw[if_neg (by rw[HTT.o];decide),if_neg (by rw[HB.o];decide)];exact⟨HD.o.1,HS2.o.right⟩
       case measure=>simp[intOf];omega
   .have ht:ps.zipIdx.take k=ps.zipIdx:=List.take_of_length_le (by simp;omega);rw[ht] at HD;clear ht;have HE:Hid (Sat w0 (ae d ⟨rJ keep torn bytes D.cells D.pend,D.pend,D.armed,D.writes,D.off⟩*(Ro Kp (keep.map Value.bool)*F)) wr):=by
     refine Sat.mC (D:=⟨rJ keep torn bytes D.cells D.pend,D.pend,D.armed,D.writes,D.off⟩) HD.o.2 ⟨?_,HR.o.pend,HD.o.1.fitc,?_,?_,?_⟩ HN.o
     .show rJ keep torn bytes D.cells D.pend=_;rw[HR.o.cells,HR.o.pend,GF,zip_map];rfl
     .rw[HD.o.1.len];exact HR.o.fitp
     .rw[HD.o.1.len];exact HR.o.two
     .rw[HD.o.1.len];exact HR.o.aD
    go_wp2_with fail;refine(pA d _ w0 wr _ HE.o).mono ?_;rintro e w' ⟨rfl,hs⟩;obtain⟨C',cc',M',nm',vp',cs',ps',hr',hn',hs'⟩:=hs.nS;have q1:=hs'.head.c3;have q2:=hs'.head.c5;have f1:=hs'.mA 3;have f2:=hs'.mA 5;have HS':=ah hs';have HR':=ah hr';have HN':=ah hn';clear hs hs' hr' hn';go_wp2_with fail;go_end0
    refine⟨rfl,?_⟩;rw[HP.o];exact Sat.mC (D:=⟨rJ keep torn bytes D.cells D.pend,[],0,D.writes,false⟩) ((HS'.o.rH 0 rfl).GG false) ⟨HR'.o.cells,HR'.o.pend,HR'.o.fitc,HR'.o.fitp,HR'.o.two,HR'.o.aD⟩ HN'.o
 .have ho':D.off=false:=by simpa using ho
  have HP:Hid (D.on keep torn bytes=D):=by unfold Hid Dk.on;rw[if_neg ho]
  obtain⟨C,cc,M,nm,vp,cs,ps,hr,hn,hs⟩:=h.nS;have hc5:=hs.head.c5;rw[ho'] at hc5;clear ho ho' hr hn hs h;go_enter Tryz.func39, Tryz.ntmps39;go_wp2_with fail;refine bodyPost_ret (results_none rfl _ _ _) rfl ?_;refine⟨rfl,?_⟩;rw[HP.o];exact HH.o
def Ha (x:List UInt8 × Bool):List UInt8 × Int:=if x.2 then ([],24) else if x.1=[] then (List.replicate 512 0,0) else (x.1,0)
structure Af (D:Dk):Prop where
 pend: ∀ x ∈ D.pend,x.1<D.cells.length/\x.2.length=512
def jT (D:Dk) (i:Nat) (r:List UInt8 × Int):Prop:=(∃ x,D.cells[i]?=some x/\r=Ha x)\/ ∃ b,(i,b) ∈ D.pend/\(r=(b,0)\/r=([],24))
theorem Bs (D:Dk) (i:Nat) (h:D.off=false) (hi:i<D.cells.length):D.ask i=0:=by
 unfold Dk.ask;rw[h,if_neg (by simp),if_pos (by omega)]
theorem jk (D:Dk) (i:Nat) (h:D.off=false) (hi:i<D.cells.length) {b:List UInt8} (hb:D.last i=some b):D.read i=(b,0):=by
 unfold Dk.read;rw[if_pos (Bs D i h hi),hb]
theorem fM (D:Dk) (i:Nat) (h:D.off=false) (hi:i<D.cells.length) (hb:D.last i=none):D.read i=Ha D.cells[i]:=by
 unfold Dk.read;rw[if_pos (Bs D i h hi),hb,Int.toNat_natCast,List.getElem?_eq_getElem hi];rfl
theorem xV (D:Dk) (i:Nat) {b:List UInt8} (hb:D.last i=some b):(i,b) ∈ D.pend:=by
 unfold Dk.last at hb;obtain⟨x,h1,h2⟩:=Option.map_eq_some_iff.1 hb;have h3:=List.mem_reverse.1 (List.mem_of_find?_eq_some h1);have h4:=List.find?_some h1;have h5:x.1=i:=by
  have:((x.1:Nat):Int)=(i:Int):=by simpa using h4
  omega
 obtain⟨a,c⟩:=x;simp only at h2 h5;subst h2;subst h5;exact h3
theorem fT (D:Dk) (i:Nat) (h:D.off=false) (hi:i<D.cells.length):jT D i (D.read i):=by
 cases hb:D.last i with
 | none=>rw[fM D i h hi hb];exact .inl ⟨_,List.getElem?_eq_getElem hi,rfl⟩
 | some b=>rw[jk D i h hi hb];exact .inr ⟨b,xV D i hb,.inl rfl⟩
theorem ri (D:Dk) (h:D.pend=[]) (i:Int):D.last i=none:=by unfold Dk.last;rw[h];rfl
theorem vR (D:Dk) (i:Nat) (hp:D.pend=[]) (h:D.off=false) (hi:i<D.cells.length) {r:List UInt8 × Int} (hr:jT D i r):r=D.read i:=by
 rcases hr with ⟨x,h1,h2⟩ | ⟨b,h1,_⟩
 .rw[fM D i h hi (ri D hp i),h2];rw[List.getElem?_eq_getElem hi] at h1;injection h1 with h1
  rw[h1]
 .rw[hp] at h1;cases h1
theorem FB (D:Dk) (i:Int) (h:D.off=true):D.read i=([],21):=by
 have:D.ask i=21:=by unfold Dk.ask;rw[h];rfl
 unfold Dk.read;rw[this];rfl
theorem ng (D:Dk) (i:Nat) (b:List UInt8) (h:D.off=false) (hi:i<D.cells.length) (hb:b.length=512):D.write i b=(D.dK i b,if D.armed=1 then 21 else 0):=by
 unfold Dk.write;rw[if_pos (Bs D i h hi),if_pos hb,Int.toNat_natCast]
theorem ES (D:Dk) (i j:Nat) (b:List UInt8):(D.dK i b).last j=if j=i then some b else D.last j:=by
 unfold Dk.last Dk.dK;simp only[List.reverse_append,List.reverse_cons,List.reverse_nil,List.nil_append,List.singleton_append,List.find?_cons];by_cases h:j=i
 .subst h;simp
 .have h2:(((i:Nat):Int)==(j:Int))=false:=by simp;omega
  rw[h2,if_neg h]
theorem Hc (D:Dk) (i j:Nat) (b:List UInt8) {r:List UInt8 × Int} (hr:jT (D.dK i b) j r):jT D j r\/(j=i/\(r=(b,0)\/r=([],24))):=by
 rcases hr with ⟨x,h1,h2⟩ | ⟨c,h1,h2⟩
 .exact .inl (.inl ⟨x,h1,h2⟩)
 .rcases List.mem_append.1 h1 with h3 | h3
  .exact .inl (.inr ⟨c,h3,h2⟩)
  .rw[List.mem_singleton] at h3;injection h3 with h4 h5
   subst h5;exact .inr ⟨h4,h2⟩
theorem Jt {D:Dk} (hw:Af D) {i:Nat} {b:List UInt8} (hi:i<D.cells.length) (hb:b.length=512):Af (D.dK i b):=
 ⟨fun x hx=>by
  rcases List.mem_append.1 hx with h | h
  .exact hw.pend x h
  .rw[List.mem_singleton] at h;subst h;exact⟨hi,hb⟩⟩
theorem qi (ps:List (Nat × List UInt8)): ∀ cells:List (List UInt8 × Bool),(ps.foldl lay cells).length=cells.length:=by
 induction ps with
 | nil=>intro _;rfl
 | cons p ps ih=>intro cells;rw[List.foldl_cons,ih];unfold lay;rw[List.length_set]
theorem CT: ∀ (ps:List (Nat × List UInt8)) (cells:List (List UInt8 × Bool)) (i:Nat) (hi:i<cells.length),
 (ps.foldl lay cells)[i]?=match (ps.reverse.find? fun x=>((x.1:Nat):Int)==(i:Int)) with | some x=>some (x.2,false) | none=>cells[i]?
 | [],cells,i,hi=>rfl
 | p::ps,cells,i,hi=>by
  rw[List.foldl_cons,CT ps (lay cells p) i (by unfold lay;rw[List.length_set];exact hi),List.reverse_cons,List.find?_append]
  cases hf:(ps.reverse.find? fun x=>((x.1:Nat):Int)==(i:Int)) with
  | some x=>rfl
  | none=>
   simp only[Option.none_or,List.find?_cons,List.find?_nil];unfold lay;by_cases e:p.1=i
   .subst e;simp[hi]
   .have h2:(((p.1:Nat):Int)==(i:Int))=false:=by simp;omega
    rw[h2,List.getElem?_set_ne e]
theorem du (D:Dk) (h:D.off=false):D.flush=({ D with cells:=D.pend.foldl lay D.cells,pend:=[] },0):=by unfold Dk.flush;rw[h];rfl
theorem iE (D:Dk) (hw:Af D) (h:D.off=false) (i:Nat) (hi:i<D.cells.length):(D.flush.1).read i=D.read i:=by
 rw[du D h];have hl:=qi D.pend D.cells;have h2:=fM ({ D with cells:=D.pend.foldl lay D.cells,pend:=[] }:Dk) i h (by simp only[hl];exact hi) (ri _ rfl i);rw[h2];have h3:=CT D.pend D.cells i hi;have h4:(D.pend.foldl lay D.cells)[i]?=some ((D.pend.foldl lay D.cells)[i]'(by rw[hl];exact hi)):=List.getElem?_eq_getElem _;rw[h4] at h3
 cases hb:D.last i with
 | none=>
  rw[fM D i h hi hb];unfold Dk.last at hb;rw[Option.map_eq_none_iff] at hb;rw[hb] at h3;simp only[List.getElem?_eq_getElem hi] at h3;injection h3 with h3
  rw[<-h3]
 | some b=>
  rw[jk D i h hi hb];have hm:=(hw.pend _ (xV D i hb)).2;unfold Dk.last at hb;obtain⟨x,h5,h6⟩:=Option.map_eq_some_iff.1 hb;rw[h5] at h3;simp only at h3;injection h3 with h3
  show Ha ((D.pend.foldl lay D.cells)[i]'_)=_;rw[h3,h6];unfold Ha;simp only[Bool.false_eq_true,if_false];rw[if_neg (by intro e;simp only at hm;rw[e] at hm;simp at hm)]
theorem zB (keep:List Bool) (torn bytes:Int) (cells:List (List UInt8 × Bool)) (x:(Nat × List UInt8) × Nat):(lD keep torn bytes cells x).length=cells.length:=by
 unfold lD lay;split
 .rw[List.length_set]
 .split
  .rw[List.length_set]
  .rfl
theorem ui (keep:List Bool) (torn bytes:Int): ∀ (xs:List ((Nat × List UInt8) × Nat)) (cells:List (List UInt8 × Bool)) (i:Nat) (x:List UInt8 × Bool),(xs.foldl (lD keep torn bytes) cells)[i]?=some x->
 cells[i]?=some x\/ ∃ b k,((i,b),k) ∈ xs/\(x=(b,false)\/x=([],true))
 | [],cells,i,x,h=> .inl h
 | p::ps,cells,i,x,h=>by
  rw[List.foldl_cons] at h;rcases ui keep torn bytes ps _ i x h with h1 | ⟨b,k,h1,h2⟩
  .unfold lD lay at h1;split at h1
   .by_cases e:p.1.1=i
    .subst e;rw[List.getElem?_set] at h1;split at h1
     .split at h1
      .injection h1 with h1
       exact .inr ⟨p.1.2,p.2,by simp,.inr h1.symm⟩
      .cases h1
     .exact .inl h1
    .rw[List.getElem?_set_ne e] at h1;exact .inl h1
   .split at h1
    .by_cases e:p.1.1=i
     .subst e;rw[List.getElem?_set] at h1;split at h1
      .split at h1
       .injection h1 with h1
        exact .inr ⟨p.1.2,p.2,by simp,.inl h1.symm⟩
       .cases h1
      .exact .inl h1
     .rw[List.getElem?_set_ne e] at h1;exact .inl h1
    .exact .inl h1
  .exact .inr ⟨b,k,List.mem_cons_of_mem _ h1,h2⟩
theorem ua (keep:List Bool) (torn bytes:Int): ∀ (xs:List ((Nat × List UInt8) × Nat)) (cells:List (List UInt8 × Bool)),(xs.foldl (lD keep torn bytes) cells).length=cells.length
 | [],cells=>rfl
 | p::ps,cells=>by rw[List.foldl_cons,ua keep torn bytes ps,zB]
def Dk.bS (D:Dk) (keep:List Bool) (torn bytes:Int):Dk:=({ D with off:=true }:Dk).on keep torn bytes
section
variable {D:Dk} {keep:List Bool} {torn bytes:Int}
theorem Ir:D.bS keep torn bytes=⟨rJ keep torn bytes D.cells D.pend,[],0,D.writes,false⟩:=rfl
theorem ek:(D.bS keep torn bytes).cells.length=D.cells.length:=by rw[Ir];exact ua keep torn bytes _ _
theorem mY:(D.bS keep torn bytes).pend=[]:=rfl
theorem ot:(D.bS keep torn bytes).off=false:=rfl
theorem Hm:Af (D.bS keep torn bytes):=⟨fun x hx=>by rw[mY] at hx;cases hx⟩
theorem Ev (hw:Af D) (i:Nat) (hi:i<D.cells.length):jT D i ((D.bS keep torn bytes).read i):=by
 have hl:i<(D.bS keep torn bytes).cells.length:=by rw[ek];exact hi
 rw[fM _ i ot hl (ri _ mY i)];have h1:(D.bS keep torn bytes).cells[i]?=some ((D.bS keep torn bytes).cells[i]'hl):=List.getElem?_eq_getElem hl;obtain⟨x,hx⟩: ∃ x,x=(D.bS keep torn bytes).cells[i]'hl:=⟨_,rfl⟩;rw[<-hx] at h1 ⊢;rcases ui keep torn bytes D.pend.zipIdx D.cells i x h1 with h2 | ⟨b,k,h2,h3⟩
 .exact .inl ⟨x,h2,rfl⟩
 .have hm:(i,b) ∈ D.pend:=List.mem_of_getElem? (List.mem_zipIdx_iff_getElem?.1 h2);refine .inr ⟨b,hm,?_⟩;rcases h3 with rfl | rfl
  .left
   have:=(hw.pend _ hm).2;unfold Ha;simp only[Bool.false_eq_true,if_false];rw[if_neg (by intro e;simp only at this;rw[e] at this;simp at this)]
  .right;rfl
end
theorem yr {l:List UInt8} (h:l.length<=512):(yN l).length=512:=by unfold yN;rw[List.length_append,List.length_replicate];omega
theorem Cs (h:Hd):(Gj h).length=20:=by unfold Gj;simp only[List.length_append,aB]
theorem oQ: ∀ hs:List Hd,(hs.map Gj).flatten.length=20*hs.length
 | []=>rfl
 | h::hs=>by rw[List.map_cons,List.flatten_cons,List.length_append,Cs,oQ hs,List.length_cons];omega
theorem DP (turn:Nat) (hs:List Hd):(pa turn hs).length=13+20*hs.length:=by
 unfold pa;simp only[List.length_append,aB,oQ];show 4+_=_;omega
theorem fH {turn:Nat} {hs:List Hd} (h:hs.length<=24):(bZ turn hs).length=512:=yr (by rw[DP];omega)
theorem oy {birth life:Nat} {p:List UInt8} (h:p.length<=480):(bL birth life p).length=512:=yr (by simp only[List.length_append,aB];omega)
def qa (h:Hd):Prop:=h.num<4294967296/\h.first<4294967296/\h.blocks<4294967296/\h.birth<18446744073709551616
theorem JY {x:Nat} (h:x<4294967296):bI (ai x 4)=x:=by rw[jJ];exact Nat.mod_eq_of_lt h
theorem IN {x:Nat} (h:x<18446744073709551616):bI (ai x 8)=x:=by rw[jJ];exact Nat.mod_eq_of_lt h
theorem Ly {x:Nat} (h:x<65536):bI (ai x 2)=x:=by rw[jJ];exact Nat.mod_eq_of_lt h
theorem FI {h:Hd} (ho:qa h) (r:List UInt8):qD (Gj h++r)=h:=by
 obtain⟨n,f,b,i⟩:=h;obtain⟨h1,h2,h3,h4⟩:=ho;unfold qD Gj;have l1:=aB n 4;have l2:=aB f 4;have l3:=aB b 4;have l4:=aB i 8;simp only[List.append_assoc];have e4:(ai n 4++(ai f 4++(ai b 4++(ai i 8++r)))).drop 4=ai f 4++(ai b 4++(ai i 8++r)):=List.drop_left' l1;have e8:(ai n 4++(ai f 4++(ai b 4++(ai i 8++r)))).drop 8=ai b 4++(ai i 8++r):=by
  rw[show (8:Nat)=4+4 from rfl, <-List.drop_drop,e4];exact List.drop_left' l2
 have e12:(ai n 4++(ai f 4++(ai b 4++(ai i 8++r)))).drop 12=ai i 8++r:=by
  rw[show (12:Nat)=8+4 from rfl, <-List.drop_drop,e8];exact List.drop_left' l3
 rw[e4,e8,e12,List.take_left' l1,List.take_left' l2,List.take_left' l3,List.take_left' l4,JY h1,JY h2,JY h3,IN h4]
theorem rP: ∀ (hs:List Hd) (r:List UInt8),(∀ h ∈ hs,qa h)->ft hs.length ((hs.map Gj).flatten++r)=hs
 | [],r,_=>rfl
 | h::hs,r,ho=>by
  rw[List.map_cons,List.flatten_cons,List.append_assoc,List.length_cons];unfold ft;rw[FI (ho h (by simp)),List.drop_left' (Cs h),rP hs r (fun x hx=>ho x (List.mem_cons_of_mem _ hx))]
theorem Nf {n:Nat} (h:n<256):ai n 1=[UInt8.ofNat n]:=by
 show [kt n 1 0]=_;unfold kt;simp only[Nat.sub_self,Nat.pow_zero,Nat.div_one,Nat.mod_eq_of_lt h]
theorem kP {turn:Nat} {hs:List Hd} (ht:turn<18446744073709551616) (hn:hs.length<=24) (ho: ∀ h ∈ hs,qa h):dm (bZ turn hs)=some (turn,hs):=by
 obtain⟨z,hz⟩: ∃ z,z=List.replicate (512 - (pa turn hs).length) (0:UInt8):=⟨_,rfl⟩;obtain⟨R,hR⟩: ∃ R,R=(hs.map Gj).flatten:=⟨_,rfl⟩;have e:bZ turn hs=mG++(ai turn 8++(UInt8.ofNat hs.length::(R++z))):=by
  unfold bZ yN;rw[<-hz];unfold pa;rw[Nf (by omega), <-hR];simp only[List.append_assoc,List.cons_append,List.nil_append]
 have l8:=aB turn 8;have d4:(bZ turn hs).drop 4=ai turn 8++(UInt8.ofNat hs.length::(R++z)):=by rw[e];rfl
 have d12:(bZ turn hs).drop 12=UInt8.ofNat hs.length::(R++z):=by
  rw[show (12:Nat)=4+8 from rfl, <-List.drop_drop,d4];exact List.drop_left' l8
 have d13:(bZ turn hs).drop 13=R++z:=by rw[show (13:Nat)=12+1 from rfl, <-List.drop_drop,d12];rfl
 have g12:(bZ turn hs).getD 12 0=UInt8.ofNat hs.length:=by
  have h9:(bZ turn hs)[12]?=((bZ turn hs).drop 12)[0]?:=by rw[List.getElem?_drop]
  rw[List.getD_eq_getElem?_getD,h9,d12];rfl
 have gn:((bZ turn hs).getD 12 0).toNat=hs.length:=by rw[g12,UInt8.toNat_ofNat',Nat.mod_eq_of_lt (by omega)]
 unfold dm;rw[gn,d4,d13,List.take_left' l8,IN ht,hR,rP hs z ho,if_pos ⟨by rw[e];rfl,hn⟩]
theorem fZ {birth life:Nat} {p:List UInt8} (hb:birth<18446744073709551616) (hl:life<18446744073709551616) (hp:p.length<=480):
 (bL birth life p).take 8=ai birth 8/\((bL birth life p).drop 8).take 8=ai life 8/\((bL birth life p).drop 16).take 2=ai p.length 2/\((bL birth life p).drop 18).take p.length=p:=by
 obtain⟨z,hz⟩: ∃ z,z=List.replicate (512 - (ai birth 8++(ai life 8++(ai p.length 2++p))).length) (0:UInt8):=⟨_,rfl⟩;have e:bL birth life p=ai birth 8++(ai life 8++(ai p.length 2++(p++z))):=by
  unfold bL yN;rw[<-hz];simp only[List.append_assoc]
 have l1:=aB birth 8;have l2:=aB life 8;have l3:=aB p.length 2;have d8:(bL birth life p).drop 8=ai life 8++(ai p.length 2++(p++z)):=by rw[e];exact List.drop_left' l1
 have d16:(bL birth life p).drop 16=ai p.length 2++(p++z):=by rw[show (16:Nat)=8+8 from rfl, <-List.drop_drop,d8];exact List.drop_left' l2
 have d18:(bL birth life p).drop 18=p++z:=by rw[show (18:Nat)=16+2 from rfl, <-List.drop_drop,d16];exact List.drop_left' l3
 exact⟨by rw[e];exact List.take_left' l1,by rw[d8];exact List.take_left' l2,by rw[d16];exact List.take_left' l3,by rw[d18];exact List.take_left' rfl⟩
section
variable {birth life:Nat} {p:List UInt8} (hb:birth<18446744073709551616) (hl:life<18446744073709551616) (hp:p.length<=480)
include hb hl hp
theorem pr:bI ((bL birth life p).take 8)=birth:=by rw[(fZ hb hl hp).1,IN hb]
theorem iF:fy birth (bL birth life p)=true:=by
 unfold fy;rw[pr hb hl hp,(fZ hb hl hp).2.2.1,Ly (by omega)];exact decide_eq_true ⟨rfl,hp⟩
theorem ib:gF (bL birth life p)=life:=by unfold gF;rw[(fZ hb hl hp).2.1,IN hl]
theorem AU:iu (bL birth life p)=p:=by unfold iu;rw[(fZ hb hl hp).2.2.1,Ly (by omega)];exact(fZ hb hl hp).2.2.2
end
def Bh (birth last:Nat) (r:List UInt8 × Int):Prop:=r.2≠0\/fy birth r.1=false\/gF r.1<last
def ed (ls:List Nat) (m:Nat):Nat:=if m=0 then 0 else ls.getD (m - 1) 0
section
variable {D:Dk} {birth first:Nat}
theorem gK (k:Nat):bp D birth first (k+1)=eK birth (D.read ((first+k:Nat):Int)) (bp D birth first k):=rfl
theorem Jc (k:Nat) (h:(bp D birth first k).over=true):(bp D birth first (k+1)).over=true/\(bp D birth first (k+1)).aa=(bp D birth first k).aa:=by
 rw[gK];unfold eK;split
 .exact⟨rfl,rfl⟩
 .split
  .exact⟨rfl,rfl⟩
  .rw[if_pos (.inl h)];exact⟨rfl,rfl⟩
theorem yQ (k:Nat) (h:(bp D birth first k).over=true): ∀ j,(bp D birth first (k+j)).over=true/\(bp D birth first (k+j)).aa=(bp D birth first k).aa
 | 0=>⟨h,rfl⟩
 | j+1=>by
  obtain⟨h1,h2⟩:=yQ k h j;obtain⟨h3,h4⟩:=Jc (k+j) h1;exact⟨h3,h4.trans h2⟩
theorem vN (k:Nat):(bp D birth first k).aD<=(bp D birth first (k+1)).aD:=by
 rw[gK];unfold eK;split
 .exact Nat.le_refl _
 .split
  .exact Nat.le_refl _
  .split
   .exact Nat.le_max_left _ _
   .exact Nat.le_max_left _ _
theorem qO (a:Nat): ∀ j,(bp D birth first a).aD<=(bp D birth first (a+j)).aD
 | 0=>Nat.le_refl _
 | j+1=>Nat.le_trans (qO a j) (vN (a+j))
theorem gW {n k:Nat} (hk:k<n) (h1:(D.read ((first+k:Nat):Int)).2=0) (h2:fy birth (D.read ((first+k:Nat):Int)).1=true):gF (D.read ((first+k:Nat):Int)).1<=(bp D birth first n).aD:=by
 have h3:gF (D.read ((first+k:Nat):Int)).1<=(bp D birth first (k+1)).aD:=by
  rw[gK];unfold eK;rw[if_neg (by rw[h1];simp),if_neg (by rw[h2];simp)];split
  .exact Nat.le_max_right _ _
  .exact Nat.le_max_right _ _
 have h4:=qO (D:=D) (birth:=birth) (first:=first) (k+1) (n - (k+1));rw[show k+1+(n - (k+1))=n by omega] at h4;omega
theorem fR {B:Nat}: ∀ n,(∀ k,k<n->(D.read ((first+k:Nat):Int)).2=0->fy birth (D.read ((first+k:Nat):Int)).1=true->gF (D.read ((first+k:Nat):Int)).1<=B)->(bp D birth first n).aD<=B
 | 0,_=>Nat.zero_le _
 | n+1,h=>by
  have ih:=fR n (fun k hk=>h k (by omega));have hn:=h n (by omega);rw[gK];unfold eK;split
  .exact ih
  .rename_i h1;split
   .exact ih
   .rename_i h2;have h3:=hn (by simpa using h1) (by simpa using h2);split
    .exact Nat.max_le.2 ⟨ih,h3⟩
    .exact Nat.max_le.2 ⟨ih,h3⟩
theorem Cj {fr:List (List UInt8)} {ls:List Nat} (hb:birth<18446744073709551616) (hs: ∀ p ∈ fr,p.length<=480) (hl: ∀ k,k<fr.length->ls.getD k 0<18446744073709551616) (hso: ∀ k,k+1<fr.length->ls.getD k 0<=ls.getD (k+1) 0):
 ∀ m,m<=fr.length->(∀ k (h:k<fr.length),k<m->D.read ((first+k:Nat):Int)=(bL birth (ls.getD k 0) fr[k],0))->
 (bp D birth first m).over=false/\(bp D birth first m).last=ed ls m/\(bp D birth first m).aa=fr.take m
 | 0,_,_=>⟨rfl,rfl,rfl⟩
 | m+1,hm,h=>by
  obtain⟨i1,i2,i3⟩:=Cj hb hs hl hso m (by omega) (fun k hk hkm=>h k hk (by omega));have hr:=h m (by omega) (by omega);have hp:=hs fr[m] (List.getElem_mem _);have hlm:=hl m (by omega);have g1:=iF hb hlm hp;have g2:=ib hb hlm hp;have g3:=AU hb hlm hp;have hle:ed ls m<=ls.getD m 0:=by
   unfold ed;split
   .exact Nat.zero_le _
   .have:=hso (m - 1) (by omega);rwa [show m - 1+1=m by omega] at this
  rw[gK];unfold eK;rw[hr];dsimp only;rw[if_neg (by simp),if_neg (by rw[g1];simp),if_neg (by rw[i1,i2,g2];rintro (h5 | h5);cases h5;omega)];refine⟨rfl,?_,?_⟩
  .show gF _=_;rw[g2];unfold ed;rw[if_neg (by omega)];rfl
  .show _++[iu _]=_;rw[i3,g3,List.take_succ_eq_append_getElem (by omega)]
theorem II {ls:List Nat} {m:Nat} (h1:(bp D birth first m).last=ed ls m) (hj:Bh birth (ed ls m) (D.read ((first+m:Nat):Int))):
 (bp D birth first (m+1)).over=true/\(bp D birth first (m+1)).aa=(bp D birth first m).aa:=by
 rw[gK];unfold eK;by_cases e1:(D.read ((first+m:Nat):Int)).2=0
 .rw[if_neg (by rw[e1];simp)];by_cases e2:fy birth (D.read ((first+m:Nat):Int)).1=true
  .rw[if_neg (by rw[e2];simp),if_pos]
   .exact⟨rfl,rfl⟩
   .right
    rw[h1];rcases hj with h | h | h
    .exact absurd e1 h
    .rw[h] at e2;cases e2
    .exact h
  .rw[if_pos (by simpa using e2)];exact⟨rfl,rfl⟩
 .rw[if_pos e1];exact⟨rfl,rfl⟩
end
structure ct (D:Dk) (f:Fl) (ls:List Nat) (safe:Nat):Prop where
 len:ls.length=f.aa.length
 fits:f.aa.length<=f.blocks
 small: ∀ p ∈ f.aa,p.length<=480
 sorted: ∀ k,k+1<f.aa.length->ls.getD k 0<=ls.getD (k+1) 0
 top: ∀ k,k<f.aa.length->ls.getD k 0<=f.life
 safeLe:safe<=f.aa.length
 now: ∀ k (h:k<f.aa.length),D.read ((f.first+k:Nat):Int)=(bL f.birth (ls.getD k 0) f.aa[k],0)
 all: ∀ k r,k<f.blocks->jT D (f.first+k) r->r.2=0->fy f.birth r.1=true->gF r.1<=(bp D f.birth f.first f.blocks).aD
 aD:(bp D f.birth f.first f.blocks).aD<=f.life
 new:(bp D f.birth f.first f.blocks).aD=f.life->0<f.aa.length/\ed ls f.aa.length=f.life
 behind: ∀ k r,f.aa.length<=k->k<f.blocks->jT D (f.first+k) r->Bh f.birth f.life r
 gap:f.aa.length<f.blocks-> ∀ r,jT D (f.first+f.aa.length) r->Bh f.birth (ed ls f.aa.length) r
 lost: ∀ k (h:k<f.aa.length) r,jT D (f.first+k) r->r=(bL f.birth (ls.getD k 0) f.aa[k],0)\/(safe<=k/\Bh f.birth (ed ls k) r)
theorem ct.less {D:Dk} {f:Fl} {ls:List Nat} {s t:Nat} (h:ct D f ls s) (hts:t<=s):ct D f ls t:=
 ⟨h.len,h.fits,h.small,h.sorted,h.top,Nat.le_trans hts h.safeLe,h.now,h.all,h.aD,h.new,h.behind,h.gap,fun k hk r hr=>(h.lost k hk r hr).imp id fun ⟨h1,h2⟩=>⟨by omega,h2⟩⟩
theorem rT {P:Nat->Prop}: ∀ n, ∃ m,m<=n/\(∀ j,j<m->P j)/\(m<n->¬ P m)
 | 0=>⟨0,Nat.le_refl _,fun j h=>by omega,fun h=>by omega⟩
 | n+1=>by
  obtain⟨m,h1,h2,h3⟩:=rT (P:=P) n;by_cases hm:m<n
  .exact⟨m,by omega,h2,fun _=>h3 hm⟩
  .have:m=n:=by omega
   subst this;by_cases hp:P m
   .exact⟨m+1,Nat.le_refl _,fun j hj=>by
     by_cases e:j=m
     .subst e;exact hp
     .exact h2 j (by omega),fun h=>by omega⟩
   .exact⟨m,by omega,h2,fun _=>hp⟩
section
variable {D E:Dk} {f:Fl} {ls:List Nat} {safe:Nat}
theorem ct.Ky (h:ct D f ls safe) (hb:f.birth<18446744073709551616) (hl:f.life<18446744073709551616) (hE: ∀ k,k<f.blocks->jT D (f.first+k) (E.read ((f.first+k:Nat):Int))):
 ∃ m,safe<=m/\m<=f.aa.length/\(bp E f.birth f.first f.blocks).aa=f.aa.take m/\
  (∀ k (hk:k<f.aa.length),k<m->E.read ((f.first+k:Nat):Int)=(bL f.birth (ls.getD k 0) f.aa[k],0))/\
  (m<f.blocks->Bh f.birth (ed ls m) (E.read ((f.first+m:Nat):Int))):=by
 obtain⟨m,h1,h2,h3⟩:=rT (P:=fun k=> ∀ hk:k<f.aa.length,E.read ((f.first+k:Nat):Int)=(bL f.birth (ls.getD k 0) f.aa[k],0)) f.aa.length;have hfit:=h.fits;have hj:m<f.blocks->Bh f.birth (ed ls m) (E.read ((f.first+m:Nat):Int)):=fun hm=>by
  by_cases e:m<f.aa.length
  .have h4:=h3 e;rcases h.lost m e _ (hE m hm) with h5 | h5
   .exact absurd (fun _=>h5) h4
   .exact h5.2
  .have:m=f.aa.length:=by omega
   subst this;exact h.gap hm _ (hE _ hm)
 have hsafe:safe<=m:=by
  rcases Nat.lt_or_ge m safe with hlt | hge
  .have hs:=h.safeLe;have e:m<f.aa.length:=by omega
   rcases h.lost m e _ (hE m (by omega)) with h5 | h5
   .exact absurd (fun _=>h5) (h3 e)
   .omega
  .exact hge
 have ht:=Cj (D:=E) (first:=f.first) hb h.small (fun k hk=>by have:=h.top k hk;omega) h.sorted m h1 (fun k hk hkm=>h2 k hkm hk);refine⟨m,hsafe,h1,?_,fun k hk hkm=>h2 k hkm hk,hj⟩;by_cases hm:m<f.blocks
 .have hst:=II ht.2.1 (hj hm);have ho:=yQ (m+1) hst.1 (f.blocks - (m+1));rw[show m+1+(f.blocks - (m+1))=f.blocks by omega] at ho;rw[ho.2,hst.2,ht.2.2]
 .have:m=f.blocks:=by omega
  rw[<-this];exact ht.2.2
theorem ct.Md (h:ct D f ls safe) (hE: ∀ k,k<f.blocks->jT D (f.first+k) (E.read ((f.first+k:Nat):Int))):(bp E f.birth f.first f.blocks).aD<=f.life:=
 Nat.le_trans (fR f.blocks fun k hk h1 h2=>h.all k _ hk (hE k hk) h1 h2) h.aD
theorem ct.crashed (h:ct D f ls safe) (hb:f.birth<18446744073709551616) (hl:f.life<9223372036854775808) (hE: ∀ k,k<f.blocks->jT D (f.first+k) (E.read ((f.first+k:Nat):Int)))
 (hS: ∀ k r,k<f.blocks->jT E (f.first+k) r->r=E.read ((f.first+k:Nat):Int)):
 ∃ m,safe<=m/\m<=f.aa.length/\ ∃ life,life<=f.life+1/\Fl.load E { f with aa:=[] }={ f with life:=life,aa:=f.aa.take m }/\ct E { f with life:=life,aa:=f.aa.take m } (ls.take m) m:=by
 obtain⟨m,h1,h2,h3,h4,h5⟩:=h.Ky hb (by omega) hE;have hm2:=h.Md hE;refine⟨m,h1,h2,(bp E f.birth f.first f.blocks).aD+1,by omega,?_,?_⟩
 .unfold Fl.load;simp only[List.nil_append];rw[h3,Nat.mod_eq_of_lt (by omega)]
 have hlt:(f.aa.take m).length=m:=by rw[List.length_take];omega
 have hgt: ∀ k,k<m->(ls.take m).getD k 0=ls.getD k 0:=fun k hk=>by
  rw[List.getD_eq_getElem?_getD,List.getD_eq_getElem?_getD,List.getElem?_take,if_pos hk]
 have hlast:ed (ls.take m) m=ed ls m:=by
  unfold ed;split
  .rfl
  .exact hgt (m - 1) (by omega)
 have hlk: ∀ k,k<=m->ed (ls.take m) k=ed ls k:=fun k hk=>by
  unfold ed;split
  .rfl
  .exact hgt (k - 1) (by omega)
 have hfit:=h.fits;have hge: ∀ k,k<m->ls.getD k 0<=(bp E f.birth f.first f.blocks).aD:=fun k hk=>by
  have hr:=h4 k (by omega) hk;have hp:=h.small f.aa[k] (List.getElem_mem _);have hlk2:ls.getD k 0<18446744073709551616:=by have:=h.top k (by omega);omega
  have h9:=gW (D:=E) (birth:=f.birth) (first:=f.first) (n:=f.blocks) (k:=k) (by omega) (by rw[hr]) (by rw[hr];exact iF hb hlk2 hp);rw[hr] at h9;rwa [ib hb hlk2 hp] at h9
 refine⟨by rw[List.length_take];simp only[hlt];have:=h.len;omega,by simp only[hlt];omega,fun p hp=>h.small p (List.mem_of_mem_take hp),fun k hk=>?_,fun k hk=>?_,by simp only[hlt];omega,fun k hk=>?_,fun k r hk hr hr2 hg=>?_,Nat.le_succ _,fun e=>by simp only at e;omega,fun k r hk hkb hr=>?_,fun hk r hr=>?_,fun k hk r hr=>?_⟩
 .simp only[hlt] at hk;rw[hgt k (by omega),hgt (k+1) (by omega)];exact h.sorted k (by omega)
 .simp only[hlt] at hk;rw[hgt k hk];have:=hge k hk;simp only;omega
 .simp only[hlt] at hk;simp only[hgt k hk,List.getElem_take];exact h4 k (by omega) hk
 .simp only at hr hg hk ⊢;rw[hS k r hk hr] at hr2 hg ⊢;exact gW hk hr2 hg
 .simp only[hlt] at hk hr hkb ⊢;rw[hS k r hkb hr];by_cases e1:(E.read ((f.first+k:Nat):Int)).2=0
  .by_cases e2:fy f.birth (E.read ((f.first+k:Nat):Int)).1=true
   .have:=gW (n:=f.blocks) hkb e1 e2;exact .inr (.inr (by omega))
   .exact .inr (.inl (by simpa using e2))
  .exact .inl e1
 .simp only[hlt] at hk hr ⊢;rw[hlast,hS m r hk hr];exact h5 hk
 .simp only[hlt] at hk hr;simp only[hgt k hk,List.getElem_take];left
  rw[hS k r (by omega) hr];exact h4 k (by omega) hk
theorem ct.again (h:ct D f ls safe) (hb:f.birth<18446744073709551616) (hl:f.life<9223372036854775808) (hE: ∀ k,k<f.blocks->jT D (f.first+k) (D.read ((f.first+k:Nat):Int))):
 ∃ life,life<=f.life+1/\Fl.load D { f with aa:=[] }={ f with life:=life }/\ct D { f with life:=life } ls safe:=by
 obtain⟨m,h1,h2,h3,h4,h5⟩:=h.Ky hb (by omega) hE;have hm:m=f.aa.length:=by
  rcases Nat.lt_or_ge m f.aa.length with hlt | hge
  .have hfit:=h.fits;have hj:=h5 (by omega);have hn:=h.now m hlt;rw[hn] at hj;have hp:=h.small f.aa[m] (List.getElem_mem _);have hlm:ls.getD m 0<18446744073709551616:=by have:=h.top m hlt;omega
   rcases hj with hj | hj | hj
   .exact absurd rfl hj
   .simp only at hj;rw[iF hb hlm hp] at hj;cases hj
   .simp only at hj;rw[ib hb hlm hp] at hj;unfold ed at hj;split at hj
    .omega
    .have:=h.sorted (m - 1) (by omega);rw[show m - 1+1=m by omega] at this;omega
  .omega
 subst hm;rw[List.take_length] at h3;refine⟨(bp D f.birth f.first f.blocks).aD+1,by have:=h.aD;omega,?_,?_⟩
 .unfold Fl.load;simp only[List.nil_append];rw[h3,Nat.mod_eq_of_lt (by have:=h.aD;omega)]
 have hge: ∀ k,k<f.aa.length->ls.getD k 0<=(bp D f.birth f.first f.blocks).aD:=fun k hk=>by
  have hr:=h.now k hk;have hp:=h.small f.aa[k] (List.getElem_mem _);have hlk2:ls.getD k 0<18446744073709551616:=by have:=h.top k hk;omega
  have h9:=gW (D:=D) (birth:=f.birth) (first:=f.first) (n:=f.blocks) (k:=k) (by have:=h.fits;omega) (by rw[hr]) (by rw[hr];exact iF hb hlk2 hp);rw[hr] at h9;rwa [ib hb hlk2 hp] at h9
 refine⟨h.len,h.fits,h.small,h.sorted,fun k hk=>?_,h.safeLe,h.now,h.all,Nat.le_succ _,fun e=>by simp only at e;omega,fun k r hk hkb hr=>?_,h.gap,h.lost⟩
 .have:=hge k hk;simp only;omega
 .by_cases e1:r.2=0
  .by_cases e2:fy f.birth r.1=true
   .have:=h.all k r hkb hr e1 e2;exact .inr (.inr (by simp only;omega))
   .exact .inr (.inl (by simpa using e2))
  .exact .inl e1
end
def Dk.wr (D:Dk) (i:Nat) (b:List UInt8):Dk:={ D.dK i b with off:=false }
section
variable {D E:Dk} {f:Fl} {ls:List Nat} {safe:Nat} {i j:Nat} {b:List UInt8} {r:List UInt8 × Int}
theorem Gb:(D.wr i b).cells.length=D.cells.length:=rfl
theorem zR:(D.wr i b).off=false:=rfl
theorem zl (hw:Af D) (hi:i<D.cells.length) (hb:b.length=512):Af (D.wr i b):=⟨(Jt hw hi hb).pend⟩
theorem km (hr:jT (D.wr i b) j r):jT D j r\/(j=i/\(r=(b,0)\/r=([],24))):=Hc D i j b hr
theorem wG (j:Nat):(D.wr i b).last j=if j=i then some b else D.last j:=ES D i j b
theorem qm (h0:D.off=false) (hj:j<D.cells.length):(D.wr i b).read j=if j=i then (b,0) else D.read j:=by
 by_cases e:j=i
 .rw[if_pos e];exact jk _ j zR hj (by rw[wG,if_pos e])
 .rw[if_neg e]
  cases hl:D.last j with
  | none=>
   rw[fM D j h0 hj hl];exact fM _ j zR hj (by rw[wG,if_neg e];exact hl)
  | some c=>
   rw[jk D j h0 hj hl];exact jk _ j zR hj (by rw[wG,if_neg e];exact hl)
theorem zv {birth first:Nat}: ∀ n,(∀ k,k<n->E.read ((first+k:Nat):Int)=D.read ((first+k:Nat):Int))->bp E birth first n=bp D birth first n
 | 0,_=>rfl
 | n+1,h=>by
  unfold bp;rw[h n (by omega),zv n (fun k hk=>h k (by omega))]
theorem ct.same (h:ct D f ls safe) (h1: ∀ k,k<f.blocks->E.read ((f.first+k:Nat):Int)=D.read ((f.first+k:Nat):Int)) (h2: ∀ k r,k<f.blocks->jT E (f.first+k) r->jT D (f.first+k) r):ct E f ls safe:=by
 have hfit:=h.fits;have hld:=zv (D:=D) (E:=E) (birth:=f.birth) (first:=f.first) f.blocks h1;exact⟨h.len,h.fits,h.small,h.sorted,h.top,h.safeLe,fun k hk=>by rw[h1 k (by omega)];exact h.now k hk,fun k r hk hr=>by rw[hld];exact h.all k r hk (h2 k r hk hr),by rw[hld];exact h.aD,by rw[hld];exact h.new,
  fun k r hk hkb hr=>h.behind k r hk hkb (h2 k r hkb hr),fun hk r hr=>h.gap hk r (h2 _ r hk hr),fun k hk r hr=>h.lost k hk r (h2 k r (by omega) hr)⟩
theorem ct.Mu (h:ct D f ls safe) (h0:D.off=false) (hn:f.first+f.blocks<=D.cells.length) (hi:i<f.first\/f.first+f.blocks<=i):ct (D.wr i b) f ls safe:=
 h.same (fun k hk=>by rw[qm h0 (by omega),if_neg (by omega)]) (fun k r hk hr=>by
  rcases km hr with h1 | ⟨h1,_⟩
  .exact h1
  .omega)
theorem ct.flush (h:ct D f ls safe) (hw:Af D) (h0:D.off=false) (hn:f.first+f.blocks<=D.cells.length):ct D.flush.1 f ls f.aa.length:=by
 have hl:D.flush.1.cells.length=D.cells.length:=by rw[du D h0];exact qi _ _
 have ho:D.flush.1.off=false:=by rw[du D h0];exact h0
 have hp:D.flush.1.pend=[]:=by rw[du D h0]
 have hm: ∀ k r,k<f.blocks->jT D.flush.1 (f.first+k) r->r=D.read ((f.first+k:Nat):Int):=fun k r hk hr=>by
  rw[vR _ _ hp ho (by omega) hr,iE D hw h0 _ (by omega)]
 have h2:=h.same (E:=D.flush.1) (fun k hk=>iE D hw h0 _ (by omega)) (fun k r hk hr=>by rw[hm k r hk hr];exact fT D _ h0 (by omega));exact⟨h2.len,h2.fits,h2.small,h2.sorted,h2.top,Nat.le_refl _,h2.now,h2.all,h2.aD,h2.new,h2.behind,h2.gap,fun k hk r hr=>by
  have:=h.fits;left
  rw[hm k r (by omega) hr];exact h.now k hk⟩
theorem gR {ls:List Nat} {x k:Nat} (h:k<ls.length):(ls++[x]).getD k 0=ls.getD k 0:=by
 rw[List.getD_eq_getElem?_getD,List.getD_eq_getElem?_getD,List.getElem?_append_left h]
theorem lN {ls:List Nat} {x:Nat}:(ls++[x]).getD ls.length 0=x:=by
 rw[List.getD_eq_getElem?_getD,List.getElem?_append_right (Nat.le_refl _),Nat.sub_self];rfl
theorem ct.append (h:ct D f ls safe) (h0:D.off=false) (hn:f.first+f.blocks<=D.cells.length) (hb:f.birth<18446744073709551616) (hl:f.life<9223372036854775808) {p:List UInt8} (hp:p.length<=480) (hlt:f.aa.length<f.blocks):
 ct (D.wr (f.first+f.aa.length) (bL f.birth f.life p)) { f with aa:=f.aa++[p] } (ls++[f.life]) safe:=by
 have hlen:=h.len;have hl2:f.life<18446744073709551616:=by omega
 obtain⟨i,hi⟩: ∃ i,i=f.first+f.aa.length:=⟨_,rfl⟩;obtain⟨b,hbb⟩: ∃ b,b=bL f.birth f.life p:=⟨_,rfl⟩;have g1:=iF hb hl2 hp;have g2:=ib hb hl2 hp;rw[<-hbb] at g1 g2;rw[<-hi, <-hbb];have hfl:(f.aa++[p]).length=f.aa.length+1:=by rw[List.length_append];rfl
 have hrd: ∀ k,k<f.blocks->(D.wr i b).read ((f.first+k:Nat):Int)=if k=f.aa.length then (b,0) else D.read ((f.first+k:Nat):Int):=fun k hk=>by
  rw[qm h0 (by omega)];by_cases e:k=f.aa.length
  .rw[if_pos e,if_pos (by omega)]
  .rw[if_neg e,if_neg (by omega)]
 have hmy: ∀ k r,k<f.blocks->jT (D.wr i b) (f.first+k) r->jT D (f.first+k) r\/(k=f.aa.length/\(r=(b,0)\/r=([],24))):=fun k r hk hr=>by
  rcases km hr with h1 | ⟨h1,h2⟩
  .exact .inl h1
  .exact .inr ⟨by omega,h2⟩
 have hbig:f.life<=(bp (D.wr i b) f.birth f.first f.blocks).aD:=by
  have h9:=gW (D:=D.wr i b) (birth:=f.birth) (first:=f.first) (n:=f.blocks) (k:=f.aa.length) hlt (by rw[hrd _ hlt,if_pos rfl]) (by rw[hrd _ hlt,if_pos rfl];exact g1);rw[hrd _ hlt,if_pos rfl] at h9;rwa [g2] at h9
 have hsm:(bp (D.wr i b) f.birth f.first f.blocks).aD<=f.life:=fR f.blocks fun k hk e1 e2=>by
  rw[hrd k hk] at e1 e2 ⊢;by_cases e:k=f.aa.length
  .rw[if_pos e,g2];exact Nat.le_refl _
  .rw[if_neg e] at e1 e2 ⊢;exact Nat.le_trans (h.all k _ hk (fT D _ h0 (by omega)) e1 e2) h.aD
 have hm:=h.aD;have hlk: ∀ k,k<=f.aa.length->ed (ls++[f.life]) k=ed ls k:=fun k hk=>by
  unfold ed;split
  .rfl
  .exact gR (by omega)
 have hll:ed (ls++[f.life]) (f.aa.length+1)=f.life:=by
  unfold ed;rw[if_neg (by omega),Nat.add_sub_cancel, <-hlen];exact lN
 refine⟨by rw[List.length_append,hlen,hfl];rfl,by rw[hfl];exact hlt,fun q hq=>?_,fun k hk=>?_,fun k hk=>?_,by rw[hfl];have:=h.safeLe;omega,fun k hk=>?_,fun k r hk hr e1 e2=>?_,hsm,fun _=>⟨by rw[hfl];omega,by rw[hfl];exact hll⟩,fun k r hk hkb hr=>?_,fun hk r hr=>?_,fun k hk r hr=>?_⟩
 .rcases List.mem_append.1 hq with hq | hq
  .exact h.small q hq
  .rw[List.mem_singleton] at hq;subst hq;exact hp
 .rw[hfl] at hk;rw[gR (by omega)];by_cases e:k+1=f.aa.length
  .have:(ls++[f.life]).getD (k+1) 0=f.life:=by rw[e, <-hlen];exact lN
   rw[this];exact h.top k (by omega)
  .rw[gR (by omega)];exact h.sorted k (by omega)
 .rw[hfl] at hk;by_cases e:k=f.aa.length
  .have:(ls++[f.life]).getD k 0=f.life:=by rw[e, <-hlen];exact lN
   rw[this];exact Nat.le_refl _
  .rw[gR (by omega)];exact h.top k (by omega)
 .rw[hfl] at hk;show (D.wr i b).read ((f.first+k:Nat):Int)=_;rw[hrd k (by omega)];by_cases e:k=f.aa.length
  .have e2:(ls++[f.life]).getD k 0=f.life:=by rw[e, <-hlen];exact lN
   rw[if_pos e,e2];have e3:(f.aa++[p])[k]'(by rw[hfl];omega)=p:=by simp[e]
   simp only[e3,hbb]
  .rw[if_neg e,gR (by omega)];have e3:(f.aa++[p])[k]'(by rw[hfl];omega)=f.aa[k]'(by omega):=List.getElem_append_left (by omega);simp only[e3];exact h.now k (by omega)
 .rcases hmy k r hk hr with h1 | ⟨_,h2 | h2⟩
  .have:=h.all k r hk h1 e1 e2;show gF r.1<=(bp (D.wr i b) f.birth f.first f.blocks).aD;omega
  .rw[h2];show gF b<=(bp (D.wr i b) f.birth f.first f.blocks).aD;rw[g2];exact hbig
  .rw[h2] at e1;cases e1
 .rw[hfl] at hk;rcases hmy k r hkb hr with h1 | ⟨h1,_⟩
  .exact h.behind k r (by omega) hkb h1
  .omega
 .rw[hfl] at hk hr ⊢;rw[hll];rcases hmy _ r hk hr with h1 | ⟨h1,_⟩
  .exact h.behind _ r (by omega) hk h1
  .omega
 .rw[hfl] at hk;rw[hlk k (by omega)];by_cases e:k=f.aa.length
  .have e2:(ls++[f.life]).getD k 0=f.life:=by rw[e, <-hlen];exact lN
   have e3:(f.aa++[p])[k]'(by rw[hfl];omega)=p:=by simp[e]
   simp only[e2,e3];rcases hmy k r (by omega) hr with h1 | ⟨_,h2 | h2⟩
   .subst e;exact .inr ⟨h.safeLe,h.gap hlt r h1⟩
   .left;rw[h2,hbb]
   .right
    refine⟨by have:=h.safeLe;omega,.inl ?_⟩;rw[h2];decide
  .rw[gR (by omega)];have e3:(f.aa++[p])[k]'(by rw[hfl];omega)=f.aa[k]'(by omega):=List.getElem_append_left (by omega);simp only[e3];rcases hmy k r (by omega) hr with h1 | ⟨h1,_⟩
   .exact h.lost k (by omega) r h1
   .omega
theorem ct.fresh {num first blocks turn:Nat} (h: ∀ k r,k<blocks->jT D (first+k) r->r.2=0->bI (r.1.take 8)<turn) (h0:D.off=false) (hn:first+blocks<=D.cells.length):ct D ⟨num,first,blocks,turn,1,[]⟩ [] 0:=by
 have hg: ∀ k r,k<blocks->jT D (first+k) r->r.2=0->fy turn r.1=false:=fun k r hk hr e=>by
  have:=h k r hk hr e;unfold fy;exact decide_eq_false (by rintro ⟨h1,_⟩;omega)
 have hm:(bp D turn first blocks).aD<=0:=fR blocks fun k hk e1 e2=>by
  rw[hg k _ hk (fT D _ h0 (by omega)) e1] at e2;cases e2
 have hj: ∀ k r x,k<blocks->jT D (first+k) r->Bh turn x r:=fun k r x hk hr=>by
  by_cases e:r.2=0
  .exact .inr (.inl (hg k r hk hr e))
  .exact .inl e
 have no: ∀ k,¬ k<([]:List (List UInt8)).length:=fun k hk=>by simp at hk
 refine⟨rfl,Nat.zero_le _,by simp,fun k hk=>absurd hk (no _),fun k hk=>absurd hk (no k),Nat.zero_le _,fun k hk=>absurd hk (no k),fun k r hk hr e1 e2=>?_,?_,fun e=>?_,fun k r _ hk hr=>hj k r _ hk hr,fun hk r hr=>hj 0 r _ hk hr,fun k hk=>absurd hk (no k)⟩
 .have h9:fy turn r.1=true:=e2;rw[hg k r hk hr e1] at h9
  cases h9
 .show (bp D turn first blocks).aD<=1;omega
 .have h9:(bp D turn first blocks).aD=1:=e;omega
end
structure oV (n turn:Nat) (fs:List Fl):Prop where
 count:fs.length<=24
 nums:fs.Pairwise fun a b=>a.num<b.num
 apart:fs.Pairwise fun a b=>a.first+a.blocks<=b.first\/b.first+b.blocks<=a.first
 each: ∀ f ∈ fs,1<=f.num/\f.num<2147483648/\2<=f.first/\1<=f.blocks/\f.first+f.blocks<=n/\f.birth<=turn
structure xo (D:Dk) (turn:Nat) (fs:List Fl) (sf:Nat->Nat) (lim:Nat):Prop where
 off:D.off=false
 wf:Af D
 two:2<=D.cells.length
 aD:D.cells.length<=65536
 ok:oV D.cells.length turn fs
 cap:turn<=lim/\lim<=1000000000
 each: ∀ f ∈ fs,f.life<=lim/\ ∃ ls,ct D f ls (sf f.num)
 births: ∀ i,2<=i->i<D.cells.length-> ∀ r,jT D i r->r.2=0->bI (r.1.take 8)<=turn
structure jq (D:Dk) (slot turn:Nat) (hs:List Hd):Prop where
 lt:slot<2
 here: ∀ r,jT D slot r->r=(bZ turn hs,0)
 there: ∀ r,jT D (1 - slot) r->r.2=0-> ∀ t gs,dm r.1=some (t,gs)->kW D.cells.length gs=true->t<turn
structure Good (D:Dk) (S:aN) (sf:Nat->Nat) (lim:Nat):Prop where
 fils:xo D S.turn S.files sf lim
 heads:jq D S.slot S.turn (S.files.map Fl.hd)
section
variable {D E:Dk} {S:aN} {sf:Nat->Nat} {lim turn slot n:Nat} {fs:List Fl} {f:Fl}
theorem oV.Iz (h:oV n turn fs) (hn:n<=65536) (ht:turn<9223372036854775807): ∀ x ∈ fs.map Fl.hd,qa x:=fun x hx=>by
 obtain⟨f,hf,rfl⟩:=List.mem_map.1 hx;obtain⟨h1,h2,h3,h4,h5,h6⟩:=h.each f hf;exact⟨by show f.num<_;omega,by show f.first<_;omega,by show f.blocks<_;omega,by show f.birth<_;omega⟩
theorem oV.MI (h:oV n turn fs):kW n (fs.map Fl.hd)=true:=by
 unfold kW;rw[List.all_eq_true];intro x hx;obtain⟨f,hf,rfl⟩:=List.mem_map.1 hx;obtain⟨h1,h2,h3,h4,h5,h6⟩:=h.each f hf;exact decide_eq_true ⟨h3,h4,by show (f.blocks:Int)<=n - f.first;omega⟩
theorem pN {hs:List Hd} (h:jq D slot turn hs) (h0:D.off=false) (h2:2<=D.cells.length) (ht:turn<18446744073709551616) (hn:hs.length<=24) (ho: ∀ x ∈ hs,qa x) (hl:kW D.cells.length hs=true):
 cL D=(some ⟨slot,turn,hs.map Hd.fl⟩,0):=by
 have hu:=kP ht hn ho;have r1:=h.here _ (fT D slot h0 (by have:=h.lt;omega));have hs2:=h.lt;have r2:=h.there _ (fT D (1 - slot) h0 (by omega));unfold cL;rw[h0];simp only[Bool.false_eq_true,if_false];have hb: ∀ s:Option aN,(∀ x,s=some x->x.turn<turn)->fe D s slot=some ⟨slot,turn,hs.map Hd.fl⟩:=fun s hsx=>by
  unfold fe;rw[r1];simp only[ne_eq,not_true_eq_false,if_false,hu];rw[if_pos];refine⟨hl,?_⟩
  cases s with
  | none=>rfl
  | some x=>exact decide_eq_true (hsx x rfl)
 have ha: ∀ x,fe D none (1 - slot)=some x->x.turn<turn:=fun x hx=>by
  unfold fe at hx;split at hx
  .cases hx
  .rename_i e;split at hx
   .cases hx
   .rename_i t gs e2;split at hx
    .rename_i e3;injection hx with hx
     rw[<-hx];exact r2 (by simpa using e) t gs e2 e3.1
    .cases hx
 have hc:fe D (some ⟨slot,turn,hs.map Hd.fl⟩) (1 - slot)=some ⟨slot,turn,hs.map Hd.fl⟩:=by
  unfold fe;split
  .rfl
  .rename_i e;split
   .rfl
   .rename_i t gs e2;rw[if_neg];rintro ⟨e3,e4⟩;have:=r2 (by simpa using e) t gs e2 e3;have e5:turn<t:=of_decide_eq_true e4;omega
 have hcase:slot=0\/slot=1:=by omega
 rcases hcase with rfl | rfl
 .have h1:=hb none (fun x e=>by cases e);rw[h1];rw[show fe D (some ⟨0,turn,hs.map Hd.fl⟩) 1=some ⟨0,turn,hs.map Hd.fl⟩ from hc]
 .rw[hb _ ha]
theorem jq.sub {hs:List Hd} (h:jq D slot turn hs) (hl:E.cells.length=D.cells.length) (h2:2<=D.cells.length) (hm: ∀ i r,i<D.cells.length->jT E i r->jT D i r):jq E slot turn hs:=by
 have:=h.lt;exact⟨h.lt,fun r hr=>h.here r (hm slot r (by omega) hr),fun r hr=>by rw[hl];exact h.there r (hm _ r (by omega) hr)⟩
def dw (fs:List Fl) (num:Nat):Nat:=match fs.find? fun f=>f.num==num with | some f=>f.aa.length | none=>0
theorem nE: ∀ {fs:List Fl},(fs.Pairwise fun a b=>a.num<b.num)->f ∈ fs->(fs.find? fun g=>g.num==f.num)=some f
 | [],_,h=>by cases h
 | g::gs,hp,h=>by
  rw[List.find?_cons];rcases List.mem_cons.1 h with rfl | h
  .simp
  .have:=(List.pairwise_cons.1 hp).1 f h;rw[show (g.num==f.num)=false by simp;omega];exact nE (List.pairwise_cons.1 hp).2 h
theorem oK (hp:fs.Pairwise fun a b=>a.num<b.num) (h:f ∈ fs):dw fs f.num=f.aa.length:=by
 unfold dw;rw[nE hp h]
def fU (sf:Nat->Nat):List Fl->List Fl->Prop
 | [],[]=>True
 | f::fs,g::gs=>(g.num=f.num/\g.first=f.first/\g.blocks=f.blocks/\g.birth=f.birth/\ ∃ m,sf f.num<=m/\m<=f.aa.length/\g.aa=f.aa.take m)/\fU sf fs gs
 | _,_=>False
theorem fU.hd {sf:Nat->Nat}: ∀ {fs gs:List Fl},fU sf fs gs->gs.map Fl.hd=fs.map Fl.hd
 | [],[],_=>rfl
 | f::fs,g::gs,h=>by
  obtain⟨⟨h1,h2,h3,h4,_⟩,h5⟩:=h;rw[List.map_cons,List.map_cons,h5.hd];unfold Fl.hd;rw[h1,h2,h3,h4]
 | [],_::_,h=>h.elim
 | _::_,[],h=>h.elim
theorem oV.hd {gs:List Fl} (h:oV n turn fs) (e:gs.map Fl.hd=fs.map Fl.hd):oV n turn gs:=by
 have hl:gs.length=fs.length:=by have:=congrArg List.length e;simpa using this
 have hi: ∀ i (h1:i<gs.length),(gs[i].num=(fs[i]'(by omega)).num/\gs[i].first=(fs[i]'(by omega)).first)/\gs[i].blocks=(fs[i]'(by omega)).blocks/\gs[i].birth=(fs[i]'(by omega)).birth:=fun i h1=>by
  have h2:(gs.map Fl.hd)[i]?=(fs.map Fl.hd)[i]?:=by rw[e]
  rw[List.getElem?_map,List.getElem?_map,List.getElem?_eq_getElem h1,List.getElem?_eq_getElem (show i<fs.length by omega)] at h2;simp only[Option.map_some] at h2;injection h2 with h2
  unfold Fl.hd at h2;injection h2 with a b c d
  exact⟨⟨a,b⟩,c,d⟩
 refine⟨by rw[hl];exact h.count,?_,?_,fun g hg=>?_⟩
 .rw[List.pairwise_iff_getElem];intro i j h1 h2 hij;have:=List.pairwise_iff_getElem.1 h.nums i j (by omega) (by omega) hij;rw[(hi i h1).1.1,(hi j h2).1.1];exact this
 .rw[List.pairwise_iff_getElem];intro i j h1 h2 hij;have:=List.pairwise_iff_getElem.1 h.apart i j (by omega) (by omega) hij;rw[(hi i h1).1.2,(hi j h2).1.2,(hi i h1).2.1,(hi j h2).2.1];exact this
 .obtain⟨i,h1,rfl⟩:=List.getElem_of_mem hg;have:=h.each (fs[i]'(by omega)) (List.getElem_mem _);rw[(hi i h1).1.1,(hi i h1).1.2,(hi i h1).2.1,(hi i h1).2.2];exact this
theorem CH (f:Fl):Fl.load E f.hd.fl=Fl.load E { f with aa:=[] }:=rfl
theorem qA (h:xo D turn fs sf lim) (hl:E.cells.length=D.cells.length) (hE: ∀ i,i<D.cells.length->jT D i (E.read (i:Int))) (hS: ∀ i r,i<D.cells.length->jT E i r->r=E.read (i:Int)):
 ∀ gs,(∀ f ∈ gs,f ∈ fs)->fU sf gs (gs.map fun f=>Fl.load E f.hd.fl)/\ ∀ g ∈ (gs.map fun f=>Fl.load E f.hd.fl),g.life<=lim+1/\ ∃ ls,ct E g ls g.aa.length
 | [],_=>⟨trivial,by simp⟩
 | f::gs,hg=>by
  have hf:=hg f (by simp);obtain⟨i1,i2⟩:=qA h hl hE hS gs (fun x hx=>hg x (List.mem_cons_of_mem _ hx));obtain⟨h1,ls,h2⟩:=h.each f hf;obtain⟨a1,a2,a3,a4,a5,a6⟩:=h.ok.each f hf;have hlim:=h.cap;obtain⟨m,b1,b2,life,b3,b4,b5⟩:=h2.crashed (E:=E) (by omega) (by omega) (fun k hk=>hE _ (by omega)) (fun k r hk hr=>hS _ r (by omega) hr);rw[List.map_cons,CH,b4];refine⟨⟨⟨rfl,rfl,rfl,rfl,m,b1,b2,rfl⟩,i1⟩,fun g hg=>?_⟩;rcases List.mem_cons.1 hg with rfl | hg
  .refine⟨by show life<=lim+1;omega,ls.take m,?_⟩;have e:(f.aa.take m).length=m:=by rw[List.length_take];omega
   have:({ f with life:=life,aa:=f.aa.take m }:Fl).aa.length=m:=e;rw[this];exact b5
  .exact i2 g hg
theorem rM (h:xo D turn fs sf lim): ∀ gs,(∀ f ∈ gs,f ∈ fs)->fU (fun num=>dw fs num) gs (gs.map fun f=>Fl.load D f.hd.fl)/\ ∀ g ∈ (gs.map fun f=>Fl.load D f.hd.fl),g.life<=lim+1/\ ∃ ls,ct D g ls (sf g.num)
 | [],_=>⟨trivial,by simp⟩
 | f::gs,hg=>by
  have hf:=hg f (by simp);obtain⟨i1,i2⟩:=rM h gs (fun x hx=>hg x (List.mem_cons_of_mem _ hx));obtain⟨h1,ls,h2⟩:=h.each f hf;obtain⟨a1,a2,a3,a4,a5,a6⟩:=h.ok.each f hf;have hlim:=h.cap;obtain⟨life,b3,b4,b5⟩:=h2.again (by omega) (by omega) (fun k hk=>fT D _ h.off (by omega));rw[List.map_cons,CH,b4];refine⟨⟨⟨rfl,rfl,rfl,rfl,f.aa.length,by show dw fs f.num<=_;rw[oK h.ok.nums hf];exact Nat.le_refl _,Nat.le_refl _,(List.take_length).symm⟩,i1⟩,fun g hg=>?_⟩;rcases List.mem_cons.1 hg with rfl | hg
  .exact⟨by show life<=lim+1;omega,ls,b5⟩
  .exact i2 g hg
theorem qY {s:aN} (h:cL D=(some s,0)):cP D=(some { s with files:=s.files.map (Fl.load D) },0):=by
 unfold cP;rw[h];rfl
structure vT (D E:Dk):Prop where
 off:E.off=false
 wf:Af E
 len:E.cells.length=D.cells.length
 may: ∀ i,i<D.cells.length->jT D i (E.read (i:Int))
 one: ∀ i r,i<D.cells.length->jT E i r->r=E.read (i:Int)
theorem jR {keep:List Bool} {torn bytes:Int} (hw:Af D):vT D (D.bS keep torn bytes):=
 ⟨ot,Hm,ek,fun i hi=>Ev hw i hi,fun i r hi hr=>vR _ i mY ot (by rw[ek];exact hi) hr⟩
theorem vT.sub (h:vT D E): ∀ i r,i<D.cells.length->jT E i r->jT D i r:=fun i r hi hr=>by rw[h.one i r hi hr];exact h.may i hi
theorem found (hlim2:lim+1<=1000000000) (hf:xo D turn fs sf lim) (hc:vT D E) (hh:jq E slot turn (fs.map Fl.hd)): ∃ gs,cP E=(some ⟨slot,turn,gs⟩,0)/\fU sf fs gs/\Good E ⟨slot,turn,gs⟩ (dw gs) (lim+1):=by
 have hlim:=hf.cap;have hr:=pN hh hc.off (by rw[hc.len];exact hf.two) (by omega) (by rw[List.length_map];exact hf.ok.count) (hf.ok.Iz hf.aD (by omega)) (by rw[hc.len];exact hf.ok.MI);obtain⟨h1,h2⟩:=qA hf hc.len hc.may hc.one fs (fun _ h=>h);refine⟨fs.map fun f=>Fl.load E f.hd.fl,?_,h1,⟨?_,?_⟩⟩
 .rw[qY hr];simp only[List.map_map];rfl
 .have hok:oV E.cells.length turn (fs.map fun f=>Fl.load E f.hd.fl):=by rw[hc.len];exact hf.ok.hd h1.hd
  refine⟨hc.off,hc.wf,by rw[hc.len];exact hf.two,by rw[hc.len];exact hf.aD,hok,?_,fun g hg=>?_,fun i hi hin r hr e=>?_⟩
  .exact⟨by show turn<=lim+1;omega,hlim2⟩
  .rw[oK hok.nums hg];exact h2 g hg
  .rw[hc.len] at hin;exact hf.births i hi hin r (hc.sub i r hin hr) e
 .show jq E slot turn _;rw[h1.hd];exact hh
theorem DT {hs:List Hd} {i:Nat} {b:List UInt8} (h:jq D slot turn hs) (hi:2<=i):jq (D.wr i b) slot turn hs:=by
 have:=h.lt;refine⟨h.lt,fun r hr=>?_,fun r hr=>?_⟩
 .rcases km hr with h1 | ⟨h1,_⟩
  .exact h.here r h1
  .omega
 .rcases km hr with h1 | ⟨h1,_⟩
  .exact h.there r h1
  .omega
def aN.grow (S:aN) (num:Nat) (p:List UInt8):aN:={ S with files:=S.files.map fun g=>if g.num=num then { g with aa:=g.aa++[p] } else g }
theorem CR (S:aN) (num:Nat) (p:List UInt8):(S.grow num p).files.map Fl.hd=S.files.map Fl.hd:=by
 unfold aN.grow;simp only[List.map_map];apply List.map_congr_left;intro g _;simp only[Function.comp];split<;>rfl
theorem IP: ∀ {fs:List Fl},(fs.Pairwise fun a b=>a.num<b.num)-> ∀ {f g:Fl},f ∈ fs->g ∈ fs->f.num=g.num->f=g:=by
 intro fs hp f g hf hg e;have h1:=nE hp hf;have h2:=nE hp hg;rw[e,h2] at h1;injection h1 with h1
 exact h1.symm
theorem Ga (h:oV n turn fs) {g:Fl} (hf:f ∈ fs) (hg:g ∈ fs) (hne:f.num≠g.num):f.first+f.blocks<=g.first\/g.first+g.blocks<=f.first:=by
 obtain⟨i,hi,rfl⟩:=List.getElem_of_mem hf;obtain⟨j,hj,rfl⟩:=List.getElem_of_mem hg;have hij:i≠j:=by rintro rfl;exact hne rfl
 rcases Nat.lt_or_ge i j with h1 | h1
 .exact List.pairwise_iff_getElem.1 h.apart i j hi hj h1
 .exact(List.pairwise_iff_getElem.1 h.apart j i hj hi (by omega)).symm
theorem pK (h:Good D S sf lim) (hf:f ∈ S.files) {p:List UInt8} (hp:p.length<=480) (hlt:f.aa.length<f.blocks):Good (D.wr (f.first+f.aa.length) (bL f.birth f.life p)) (S.grow f.num p) sf lim:=by
 have hF:=h.fils;obtain⟨a1,a2,a3,a4,a5,a6⟩:=hF.ok.each f hf;obtain⟨l1,ls,l2⟩:=hF.each f hf;have hlim:=hF.cap;refine⟨⟨rfl,zl hF.wf (by omega) (oy hp),hF.two,hF.aD,hF.ok.hd (CR S f.num p),hlim,fun g hg=>?_,fun i hi hin r hr e=>?_⟩,?_⟩
 .unfold aN.grow at hg;simp only[List.mem_map] at hg;obtain⟨x,hx,rfl⟩:=hg;by_cases e:x.num=f.num
  .obtain rfl:=IP hF.ok.nums hx hf e;rw[if_pos rfl];exact⟨l1,_,l2.append hF.off a5 (by omega) (by omega) hp hlt⟩
  .rw[if_neg e];obtain⟨m1,ms,m2⟩:=hF.each x hx;obtain⟨c1,c2,c3,c4,c5,c6⟩:=hF.ok.each x hx;refine⟨m1,ms,m2.Mu hF.off c5 ?_⟩;rcases Ga hF.ok hf hx (fun q=>e q.symm) with q | q
   .left;omega
   .right;omega
 .rcases km hr with h1 | ⟨h1,h2 | h2⟩
  .exact hF.births i hi hin r h1 e
  .rw[h2];show bI ((bL f.birth f.life p).take 8)<=S.turn;rw[pr (by omega) (by omega) hp];exact a6
  .rw[h2] at e;cases e
 .show jq _ S.slot S.turn _;rw[CR];exact DT h.heads (by omega)
theorem eL (hw:Af D) (h0:D.off=false):vT D D.flush.1:=by
 have hl:D.flush.1.cells.length=D.cells.length:=by rw[du D h0];exact qi _ _
 have ho:D.flush.1.off=false:=by rw[du D h0];exact h0
 have hp:D.flush.1.pend=[]:=by rw[du D h0]
 exact⟨ho,⟨fun x hx=>by rw[hp] at hx;cases hx⟩,hl,fun i hi=>by rw[iE D hw h0 i hi];exact fT D i h0 hi,fun i r hi hr=>vR _ i hp ho (by omega) hr⟩
theorem qZ (hF:xo D turn fs sf lim):xo D.flush.1 turn fs (dw fs) lim:=by
 have hc:=eL hF.wf hF.off;refine⟨hc.off,hc.wf,by rw[hc.len];exact hF.two,by rw[hc.len];exact hF.aD,by rw[hc.len];exact hF.ok,hF.cap,fun g hg=>?_,fun i hi hin r hr e=>hF.births i hi (by rw[hc.len] at hin;exact hin) r (hc.sub i r (by rw[hc.len] at hin;exact hin) hr) e⟩;obtain⟨m1,ms,m2⟩:=hF.each g hg;rw[oK hF.ok.nums hg];exact⟨m1,ms,m2.flush hF.wf hF.off (hF.ok.each g hg).2.2.2.2.1⟩
theorem rN (h:Good D S sf lim):Good D.flush.1 S (dw S.files) lim:=by
 have hc:=eL h.fils.wf h.fils.off;exact⟨qZ h.fils,h.heads.sub hc.len h.fils.two hc.sub⟩
structure Next (D:Dk) (S:aN) (sf:Nat->Nat) (fs:List Fl) (sg:Nat->Nat):Prop where
 ok:oV D.cells.length (S.turn+1) fs
 each: ∀ f ∈ fs,(f ∈ S.files/\sg f.num<=sf f.num)\/(f=⟨f.num,f.first,f.blocks,S.turn+1,1,[]⟩/\sg f.num=0)
section
variable {sg:Nat->Nat} {gs:List Fl}
theorem uL (h:Good D S sf lim) (hn:Next D S sf gs sg) (hlim:lim+1<=1000000000) {b:List UInt8} (hb:b.length=512):xo (D.wr (1 - S.slot) b) (S.turn+1) gs sg (lim+1)/\xo (D.wr (1 - S.slot) b) S.turn S.files sf lim:=by
 have hF:=h.fils;have hs:=h.heads.lt;have h2:=hF.two;have hl:=hF.cap;have hw:=zl (i:=1 - S.slot) (b:=b) hF.wf (by omega) hb;have hbi: ∀ i,2<=i->i<D.cells.length-> ∀ r,jT (D.wr (1 - S.slot) b) i r->r.2=0->bI (r.1.take 8)<=S.turn:=fun i hi hin r hr e=>by
  rcases km hr with h1 | ⟨h1,_⟩
  .exact hF.births i hi hin r h1 e
  .omega
 refine⟨⟨rfl,hw,h2,hF.aD,hn.ok,⟨by omega,hlim⟩,fun f hf=>?_,fun i hi hin r hr e=>Nat.le_succ_of_le (hbi i hi hin r hr e)⟩,⟨rfl,hw,h2,hF.aD,hF.ok,hl,fun f hf=>?_,hbi⟩⟩
 .obtain⟨a1,a2,a3,a4,a5,a6⟩:=hn.ok.each f hf;rcases hn.each f hf with ⟨e1,e2⟩ | ⟨e1,e2⟩
  .obtain⟨m1,ms,m2⟩:=hF.each f e1;exact⟨by omega,ms,(m2.Mu hF.off a5 (.inl (by omega))).less e2⟩
  .rw[e2,e1];refine⟨by show 1<=lim+1;omega,[],ct.fresh (fun k r hk hr e=>?_) rfl a5⟩;have:=hbi _ (by omega) (by show f.first+k<D.cells.length;omega) r hr e;omega
 .obtain⟨a1,a2,a3,a4,a5,a6⟩:=hF.ok.each f hf;obtain⟨m1,ms,m2⟩:=hF.each f hf;exact⟨m1,ms,m2.Mu hF.off a5 (.inl (by omega))⟩
theorem DD (h:Good D S sf lim) (hn:Next D S sf gs sg) (hc:vT (D.wr (1 - S.slot) (bZ (S.turn+1) (gs.map Fl.hd))) E):
 jq E S.slot S.turn (S.files.map Fl.hd)\/jq E (1 - S.slot) (S.turn+1) (gs.map Fl.hd):=by
 have hF:=h.fils;have hs:=h.heads.lt;have h2:=hF.two;have hl:=hF.cap;have hold: ∀ r,jT E S.slot r->r=(bZ S.turn (S.files.map Fl.hd),0):=fun r hr=>by
  rcases km (hc.sub S.slot r (by show S.slot<D.cells.length;omega) hr) with h1 | ⟨h1,_⟩
  .exact h.heads.here r h1
  .omega
 by_cases he:E.read ((1 - S.slot:Nat):Int)=(bZ (S.turn+1) (gs.map Fl.hd),0)
 .right
  refine⟨by omega,fun r hr=>?_,fun r hr e t g hu hli=>?_⟩
  .rw[hc.one _ r (by show 1 - S.slot<D.cells.length;omega) hr,he]
  .rw[show 1 - (1 - S.slot)=S.slot by omega] at hr;have h3:=hold r hr;rw[h3] at hu;rw[kP (by omega) (by rw[List.length_map];exact hF.ok.count) (hF.ok.Iz hF.aD (by omega))] at hu;injection hu with hu
   injection hu with h4 h5
   omega
 .left
  refine⟨hs,hold,fun r hr e t g hu hli=>?_⟩;have hr2:=hc.one _ r (by show 1 - S.slot<D.cells.length;omega) hr;rcases km (hc.sub (1 - S.slot) r (by show 1 - S.slot<D.cells.length;omega) hr) with h1 | ⟨_,h1 | h1⟩
  .rw[hc.len] at hli;exact h.heads.there r h1 e t g hu hli
  .rw[<-hr2] at he;exact absurd h1 he
  .rw[h1] at e;cases e
theorem Aa (h:Good D S sf lim) (hn:Next D S sf gs sg) (hlim:lim+2<=1000000000) (hc:vT (D.wr (1 - S.slot) (bZ (S.turn+1) (gs.map Fl.hd))) E):
 (∃ fs',cP E=(some ⟨S.slot,S.turn,fs'⟩,0)/\fU sf S.files fs'/\Good E ⟨S.slot,S.turn,fs'⟩ (dw fs') (lim+1))\/
 (∃ fs',cP E=(some ⟨1 - S.slot,S.turn+1,fs'⟩,0)/\fU sg gs fs'/\Good E ⟨1 - S.slot,S.turn+1,fs'⟩ (dw fs') (lim+2)):=by
 obtain⟨f1,f2⟩:=uL h hn (by omega) (b:=bZ (S.turn+1) (gs.map Fl.hd)) (fH (by rw[List.length_map];exact hn.ok.count));rcases DD h hn hc with h1 | h1
 .exact .inl (found (by omega) f2 hc h1)
 .exact .inr (found (by omega) f1 hc h1)
theorem Fz (h:Good D S sf lim) (hn:Next D S sf gs sg) (hlim:lim+1<=1000000000):Good (D.wr (1 - S.slot) (bZ (S.turn+1) (gs.map Fl.hd))).flush.1 ⟨1 - S.slot,S.turn+1,gs⟩ (dw gs) (lim+1):=by
 obtain⟨f1,f2⟩:=uL h hn (by omega) (b:=bZ (S.turn+1) (gs.map Fl.hd)) (fH (by rw[List.length_map];exact hn.ok.count));have hc:=eL f1.wf f1.off;refine⟨qZ f1,?_⟩;have hF:=h.fils;have hs:=h.heads.lt;have h2:=hF.two;have hl:=hF.cap;have he:(D.wr (1 - S.slot) (bZ (S.turn+1) (gs.map Fl.hd))).flush.1.read ((1 - S.slot:Nat):Int)=(bZ (S.turn+1) (gs.map Fl.hd),0):=by
  rw[iE _ f1.wf f1.off _ (by show 1 - S.slot<D.cells.length;omega),qm hF.off (by omega),if_pos rfl]
 refine⟨by show 1 - S.slot<2;omega,fun r hr=>?_,fun r hr e t g hu hli=>?_⟩
 .rw[hc.one _ r (by show 1 - S.slot<D.cells.length;omega) hr,he]
 .simp only at hr;rw[show 1 - (1 - S.slot)=S.slot by omega] at hr;rcases km (hc.sub S.slot r (by show S.slot<D.cells.length;omega) hr) with h1 | ⟨h1,_⟩
  .have h3:=h.heads.here r h1;rw[h3] at hu;rw[kP (by omega) (by rw[List.length_map];exact hF.ok.count) (hF.ok.Iz hF.aD (by omega))] at hu;injection hu with hu
   injection hu with h4 h5
   show t<S.turn+1;omega
  .omega
end
theorem kS (h:Good D S sf lim) (hlim:lim+1<=1000000000) (hc:vT D E): ∃ gs,cP E=(some ⟨S.slot,S.turn,gs⟩,0)/\fU sf S.files gs/\Good E ⟨S.slot,S.turn,gs⟩ (dw gs) (lim+1):=
 found hlim h.fils hc (h.heads.sub hc.len h.fils.two hc.sub)
theorem pG (h:Good D S sf lim) (hlim:lim+1<=1000000000): ∃ gs,cP D=(some ⟨S.slot,S.turn,gs⟩,0)/\fU (dw S.files) S.files gs/\Good D ⟨S.slot,S.turn,gs⟩ sf (lim+1):=by
 have hf:=h.fils;have hl:=hf.cap;have hr:=pN h.heads hf.off hf.two (by omega) (by rw[List.length_map];exact hf.ok.count) (hf.ok.Iz hf.aD (by omega)) hf.ok.MI;obtain⟨h1,h2⟩:=rM hf S.files (fun _ h=>h);refine⟨S.files.map fun f=>Fl.load D f.hd.fl,?_,h1,⟨⟨hf.off,hf.wf,hf.two,hf.aD,hf.ok.hd h1.hd,⟨by show S.turn<=lim+1;omega,hlim⟩,h2,hf.births⟩,?_⟩⟩
 .rw[qY hr];simp only[List.map_map];rfl
 .show jq D S.slot S.turn _;rw[h1.hd];exact h.heads
end
def oH (p q:Nat × Nat):Prop:=p.1+p.2<=q.1\/q.1+q.2<=p.1
def mR (n:Nat) (l:List (Nat × Nat)) (bl:Int) (a:Nat):Prop:=(a:Int)+bl<=n/\ ∀ p ∈ l,(a:Int)+bl<=p.1\/p.1+p.2<=a
theorem px {n:Nat} {bl:Int} (hb:1<=bl): ∀ (l:List (Nat × Nat)) (first:Nat),(l.Pairwise fun p q=>p.1<=q.1)->l.Pairwise oH->(∀ p ∈ l,first<=p.1/\1<=p.2/\p.1+p.2<=n)->
 ((bh n bl first l).2=true->first<=(bh n bl first l).1/\mR n l bl (bh n bl first l).1)/\(∀ a,first<=a->mR n l bl a->(bh n bl first l).2=true/\(bh n bl first l).1<=a)
 | [],first,_,_,_=>by
  unfold bh;refine⟨fun h=>⟨Nat.le_refl _,?_,by simp⟩,fun a ha hf=>⟨decide_eq_true ?_,ha⟩⟩
  .have:=of_decide_eq_true h;omega
  .have:=hf.1;omega
 | p::l,first,hs,hp,he=>by
  obtain⟨hs1,hs2⟩:=List.pairwise_cons.1 hs;obtain⟨hp1,hp2⟩:=List.pairwise_cons.1 hp;have hep:=he p (by simp);unfold bh;by_cases h:bl<=(p.1:Int) - first
  .rw[if_pos h];refine⟨fun _=>⟨Nat.le_refl _,by omega,fun q hq=>?_⟩,fun a ha _=>⟨rfl,ha⟩⟩;left
   rcases List.mem_cons.1 hq with rfl | hq
   .show (first:Int)+bl<=_;omega
   .have:=hs1 q hq;show (first:Int)+bl<=_;omega
  .rw[if_neg h];have hl: ∀ q ∈ l,p.1+p.2<=q.1/\1<=q.2/\q.1+q.2<=n:=fun q hq=>by
    have h1:=hs1 q hq;have h2:=he q (List.mem_cons_of_mem _ hq);rcases hp1 q hq with h3 | h3
    .exact⟨h3,h2.2.1,h2.2.2⟩
    .omega
   obtain⟨i1,i2⟩:=px hb l (p.1+p.2) hs2 hp2 hl;refine⟨fun ho=>?_,fun a ha hf=>?_⟩
   .obtain⟨j1,j2,j3⟩:=i1 ho;refine⟨by omega,j2,fun q hq=>?_⟩;rcases List.mem_cons.1 hq with rfl | hq
    .exact .inr j1
    .exact j3 q hq
   .refine i2 a ?_ ⟨hf.1,fun q hq=>hf.2 q (List.mem_cons_of_mem _ hq)⟩;rcases hf.2 p (by simp) with h3 | h3
    .omega
    .exact h3
theorem oe (p:Nat × Nat): ∀ l,(wD p l).Perm (p::l)
 | []=>List.Perm.refl _
 | q::l=>by
  unfold wD;split
  .exact List.Perm.refl _
  .exact(List.Perm.cons q (oe p l)).trans (List.Perm.swap _ _ _)
theorem pD (p:Nat × Nat): ∀ l,(l.Pairwise fun p q:Nat × Nat=>p.1<=q.1)->(wD p l).Pairwise fun p q=>p.1<=q.1
 | [],_=>List.pairwise_singleton _ _
 | q::l,h=>by
  obtain⟨h1,h2⟩:=List.pairwise_cons.1 h;unfold wD;split
  .rename_i hpq;exact List.pairwise_cons.2 ⟨fun x hx=>by
    rcases List.mem_cons.1 hx with rfl | hx
    .exact hpq
    .exact Nat.le_trans hpq (h1 x hx),h⟩
  .rename_i hpq;refine List.pairwise_cons.2 ⟨fun x hx=>?_,pD p l h2⟩;rcases List.mem_cons.1 ((oe p l).mem_iff.1 hx) with rfl | hx
   .omega
   .exact h1 x hx
theorem jI: ∀ l,(dv l).Perm l
 | []=>List.Perm.refl _
 | p::l=>(oe p (dv l)).trans (List.Perm.cons p (jI l))
theorem jZ: ∀ l,(dv l).Pairwise fun p q=>p.1<=q.1
 | []=>List.Pairwise.nil
 | p::l=>pD p _ (jZ l)
theorem oC (p:Fl): ∀ l,(yX p l).Perm (p::l)
 | []=>List.Perm.refl _
 | q::l=>by
  unfold yX;split
  .exact List.Perm.refl _
  .exact(List.Perm.cons q (oC p l)).trans (List.Perm.swap _ _ _)
theorem pP (p:Fl): ∀ l,(l.Pairwise fun p q:Fl=>p.num<=q.num)->(yX p l).Pairwise fun p q=>p.num<=q.num
 | [],_=>List.pairwise_singleton _ _
 | q::l,h=>by
  obtain⟨h1,h2⟩:=List.pairwise_cons.1 h;unfold yX;split
  .rename_i hpq;exact List.pairwise_cons.2 ⟨fun x hx=>by
    rcases List.mem_cons.1 hx with rfl | hx
    .exact hpq
    .exact Nat.le_trans hpq (h1 x hx),h⟩
  .rename_i hpq;refine List.pairwise_cons.2 ⟨fun x hx=>?_,pP p l h2⟩;rcases List.mem_cons.1 ((oC p l).mem_iff.1 hx) with rfl | hx
   .omega
   .exact h1 x hx
theorem kq: ∀ l,(et l).Perm l
 | []=>List.Perm.refl _
 | p::l=>(oC p (et l)).trans (List.Perm.cons p (kq l))
theorem nN: ∀ l,(et l).Pairwise fun p q=>p.num<=q.num
 | []=>List.Pairwise.nil
 | p::l=>pP p _ (nN l)
theorem yy {p q:Nat × Nat} (h:oH p q):oH q p:=h.symm
theorem sr {l m:List (Nat × Nat)} (h:l.Perm m) (hp:l.Pairwise oH):m.Pairwise oH:=(h.pairwise_iff (fun h=>yy h)).1 hp
structure lG (n:Nat) (l:List (Nat × Nat)):Prop where
 apart:l.Pairwise oH
 each: ∀ p ∈ l,2<=p.1/\1<=p.2/\p.1+p.2<=n
theorem qX {n:Nat} {bl:Int} (hb:1<=bl) {l:List (Nat × Nat)} (h:lG n l):
 ((bh n bl 2 (dv l)).2=true->2<=(bh n bl 2 (dv l)).1/\mR n l bl (bh n bl 2 (dv l)).1)/\(∀ a,2<=a->mR n l bl a->(bh n bl 2 (dv l)).2=true/\(bh n bl 2 (dv l)).1<=a):=by
 have hp:=jI l;have h9:=px (n:=n) hb (dv l) 2 (jZ l) (sr hp.symm h.apart) (fun p hq=>h.each p (hp.mem_iff.1 hq));have hf: ∀ a,mR n (dv l) bl a↔mR n l bl a:=fun a=>⟨fun ⟨h1,h2⟩=>⟨h1,fun q hq=>h2 q (hp.mem_iff.2 hq)⟩,fun ⟨h1,h2⟩=>⟨h1,fun q hq=>h2 q (hp.mem_iff.1 hq)⟩⟩
 exact⟨fun ho=>⟨(h9.1 ho).1,(hf _).1 (h9.1 ho).2⟩,fun a ha hfa=>h9.2 a ha ((hf a).2 hfa)⟩
theorem lG.snoc {n:Nat} {l:List (Nat × Nat)} (h:lG n l) {a:Nat} {bl:Int} (hb:1<=bl) (h2:2<=a) (hf:mR n l bl a):lG n (l++[(a,bl.toNat)]):=by
 refine⟨List.pairwise_append.2 ⟨h.apart,List.pairwise_singleton _ _,fun p hp q hq=>?_⟩,fun p hp=>?_⟩
 .rw[List.mem_singleton] at hq;subst hq;rcases hf.2 p hp with h3 | h3
  .right;show a+bl.toNat<=p.1;omega
  .exact .inl h3
 .rcases List.mem_append.1 hp with hp | hp
  .exact h.each p hp
  .rw[List.mem_singleton] at hp;subst hp;have:=hf.1;exact⟨h2,by show 1<=bl.toNat;omega,by show a+bl.toNat<=n;omega⟩
theorem tq {n turn:Nat}: ∀ (add:List Fi) (dz:List (Nat × Nat)) (fs gs:List Fl),ev n turn add dz fs=some gs->(∀ x ∈ add,1<=x.blocks)->lG n dz->
 ∃ news:List Fl,gs=fs++news/\news.map (·.num)=add.map (·.num.toNat)/\(∀ f ∈ news,f=⟨f.num,f.first,f.blocks,turn,1,[]⟩)/\lG n (dz++news.map fun f=>(f.first,f.blocks))/\news.map (·.blocks)=add.map (·.blocks.toNat)
 | [],dz,fs,gs,h,_,hl=>by
  unfold ev at h;injection h with h
  exact⟨[],by simp[h],rfl,by simp,by simpa using hl,rfl⟩
 | x::add,dz,fs,gs,h,hb,hl=>by
  unfold ev at h;have hx:=hb x (by simp);have hp:=(qX hx hl).1;obtain⟨a,o,e⟩: ∃ a o,bh n x.blocks 2 (dv dz)=(a,o):=⟨_,_,rfl⟩;rw[e] at h hp
  cases o with
  | false=>cases h
  | true=>
   obtain⟨p1,p2⟩:=hp rfl;have hl2:=hl.snoc hx p1 p2;obtain⟨news,h1,h2,h3,h4,h5⟩:=tq add _ _ gs h (fun y hy=>hb y (List.mem_cons_of_mem _ hy)) hl2;refine⟨⟨x.num.toNat,a,x.blocks.toNat,turn,1,[]⟩::news,by rw[h1,List.append_assoc];rfl,by rw[List.map_cons,List.map_cons,h2],fun f hf=>?_,by rw[List.map_cons];simpa using h4,by rw[List.map_cons,List.map_cons,h5]⟩;rcases List.mem_cons.1 hf with rfl | hf
   .rfl
   .exact h3 f hf
theorem uk {S:aN} {n:Int} (h:(S.find n).isSome=true): ∃ f ∈ S.files,(f.num:Int)=n:=by
 unfold aN.find at h;rw[List.find?_isSome] at h;obtain⟨f,h1,h2⟩:=h;exact⟨f,h1,by simpa using h2⟩
theorem E7 {S:aN} {n:Int} (h:(S.find n).isSome=false): ∀ f ∈ S.files,(f.num:Int)≠n:=fun f hf e=>by
 have:(S.find n).isSome=true:=by
  unfold aN.find;rw[List.find?_isSome];exact⟨f,hf,by simpa using e⟩
 rw[h] at this;cases this
theorem fX {S:aN}: ∀ (l ahead:List Int),S.dS ahead l=true↔(∀ n ∈ l,(S.find n).isSome=true/\n ∉ ahead)/\l.Nodup
 | [],ahead=>by simp[aN.dS]
 | n::l,ahead=>by
  unfold aN.dS;simp only[Bool.and_eq_true,fX l (ahead++[n]),List.nodup_cons,List.mem_cons,Bool.not_eq_true',List.contains_eq_mem,decide_eq_false_iff_not];constructor
  .rintro ⟨⟨h1,h2⟩,h3,h4⟩;refine⟨?_,?_,h4⟩
   .rintro m (rfl | hm)
    .exact⟨h1,h2⟩
    .have:=h3 m hm;simp only[List.mem_append,List.mem_singleton,not_or] at this;exact⟨this.1,this.2.1⟩
   .intro hm;have:=(h3 n hm).2;simp at this
  .rintro ⟨h1,h2,h3⟩;refine⟨⟨(h1 n (.inl rfl)).1,(h1 n (.inl rfl)).2⟩,fun m hm=>⟨(h1 m (.inr hm)).1,?_⟩,h3⟩;simp only[List.mem_append,List.mem_singleton,not_or];exact⟨(h1 m (.inr hm)).2,fun e=>h2 (e ▸ hm)⟩
theorem gX {S:aN} {drop:List Int}: ∀ (l:List Fi) (seen:List Int),S.eX drop seen l=true↔(∀ x ∈ l,(1<=x.num/\x.num<=2147483647/\1<=x.blocks)/\x.num ∉ seen/\((S.find x.num).isSome=false\/x.num ∈ drop))/\(l.map (·.num)).Nodup
 | [],seen=>by simp[aN.eX]
 | n::l,seen=>by
  unfold aN.eX;simp only[Bool.and_eq_true,Bool.or_eq_true,gX l (seen++[n.num]),List.map_cons,List.nodup_cons,List.mem_cons,Bool.not_eq_true',List.contains_eq_mem,decide_eq_false_iff_not,decide_eq_true_eq];constructor
  .rintro ⟨⟨⟨h1,h2⟩,h3⟩,h4,h5⟩;refine⟨?_,?_,h5⟩
   .rintro m (rfl | hm)
    .exact⟨h1,h2,h3⟩
    .obtain⟨a,b,c⟩:=h4 m hm;simp only[List.mem_append,List.mem_singleton,not_or] at b;exact⟨a,b.1,c⟩
   .intro hm;obtain⟨y,hy,e⟩:=List.mem_map.1 hm;have:=(h4 y hy).2.1;simp only[List.mem_append,List.mem_singleton,not_or] at this;exact this.2 e
  .rintro ⟨h1,h2,h3⟩;refine⟨⟨⟨(h1 n (.inl rfl)).1,(h1 n (.inl rfl)).2.1⟩,(h1 n (.inl rfl)).2.2⟩,fun m hm=>⟨(h1 m (.inr hm)).1,?_,(h1 m (.inr hm)).2.2⟩,h3⟩;simp only[List.mem_append,List.mem_singleton,not_or];exact⟨(h1 m (.inr hm)).2.1,fun e=>h2 (List.mem_map.2 ⟨m,hm,e⟩)⟩
theorem jM: ∀ (fs:List Fl) (drop:List Int),(fs.Pairwise fun a b=>a.num<b.num)->drop.Nodup->(∀ n ∈ drop, ∃ f ∈ fs,(f.num:Int)=n)->(fs.filter fun f=> !drop.contains (f.num:Int)).length+drop.length=fs.length
 | [],drop,_,_,hd=>by
  cases drop with
  | nil=>rfl
  | cons n l=>obtain⟨f,hf,_⟩:=hd n (by simp);cases hf
 | f::fs,drop,hp,hn,hd=>by
  obtain⟨hp1,hp2⟩:=List.pairwise_cons.1 hp;by_cases hm:(f.num:Int) ∈ drop
  .have ih:=jM fs (drop.erase (f.num:Int)) hp2 (hn.erase _) (fun n hn2=>by
    have h1:=(List.Nodup.mem_erase_iff hn).1 hn2;obtain⟨g,hg,e⟩:=hd n h1.2;rcases List.mem_cons.1 hg with rfl | hg
    .exact absurd e.symm h1.1
    .exact⟨g,hg,e⟩)
   have hl:=List.length_erase_of_mem hm;have hpos:=List.length_pos_of_mem hm;have he:(fs.filter fun g=> !(drop.erase (f.num:Int)).contains (g.num:Int))=fs.filter fun g=> !drop.contains (g.num:Int):=by
    apply List.filter_congr;intro g hg;have h1:=hp1 g hg;have:((g.num:Int) ∈ drop.erase (f.num:Int))↔(g.num:Int) ∈ drop:=by
     rw[List.Nodup.mem_erase_iff hn];exact⟨fun h=>h.2,fun h=>⟨by omega,h⟩⟩
    simp only[List.contains_eq_mem,this]
   rw[he] at ih;rw[List.filter_cons,if_neg (by simp[hm]),List.length_cons];omega
  .have ih:=jM fs drop hp2 hn (fun n hn2=>by
    obtain⟨g,hg,e⟩:=hd n hn2;rcases List.mem_cons.1 hg with rfl | hg
    .exact absurd (e ▸ hn2) hm
    .exact⟨g,hg,e⟩)
   rw[List.filter_cons,if_pos (by simp[hm]),List.length_cons,List.length_cons];omega
theorem oV.Kn {n turn:Nat} {fs:List Fl} (h:oV n turn fs):lG n (fs.map fun f=>(f.first,f.blocks)):=by
 refine⟨?_,fun p hp=>?_⟩
 .rw[List.pairwise_map];exact h.apart
 .obtain⟨f,hf,rfl⟩:=List.mem_map.1 hp;obtain⟨h1,h2,h3,h4,h5,h6⟩:=h.each f hf;exact⟨h3,h4,h5⟩
theorem uT {l:List Fl} (h:l.Pairwise fun p q=>p.num<=q.num) (hn:(l.map (·.num)).Nodup):l.Pairwise fun p q=>p.num<q.num:=by
 have h2:l.Pairwise fun p q=>p.num≠q.num:=by
  have:=List.pairwise_map.1 hn;exact this
 exact(h.and h2).imp fun ⟨a,b⟩=>by omega
theorem BH {D:Dk} {S:aN} {sf:Nat->Nat} {lim:Nat} (h:Good D S sf lim) {add:List Fi} {drop:List Int} (hm:S.may add drop=true) (hc:(S.files.length:Int)+add.length - drop.length<=24) {fs:List Fl}
 (ha:ev D.cells.length (S.turn+1) add S.dz (S.files.filter fun f=> !drop.contains (f.num:Int))=some fs):
 Next D S sf (et fs) (fun num=>if (num:Int) ∈ add.map (·.num) then 0 else sf num):=by
 unfold aN.may at hm;obtain⟨hm1,hm2⟩:=(Bool.and_eq_true _ _).mp hm |>fun x=>(x:_/\_)
 obtain⟨d1,d2⟩:=(fX drop []).1 hm1;obtain⟨a1,a2⟩:=(gX add []).1 hm2;have hok:=h.fils.ok;obtain⟨news,rfl,n1,n2,n3,n4⟩:=tq add S.dz _ fs ha (fun x hx=>(a1 x hx).1.2.2) hok.Kn;obtain⟨K,hK⟩: ∃ K,K=S.files.filter fun f=> !drop.contains (f.num:Int):=⟨_,rfl⟩;have hKm: ∀ f ∈ K,f ∈ S.files/\(f.num:Int) ∉ drop:=fun f hf=>by
  rw[hK,List.mem_filter] at hf;exact⟨hf.1,by simpa using hf.2⟩
 have hcnt:=jM S.files drop hok.nums d2 (fun n hn=>uk (d1 n hn).1);rw[<-hK] at hcnt ⊢;have hnl:news.length=add.length:=by have:=congrArg List.length n1;simpa using this
 have hnew: ∀ f ∈ news, ∃ x ∈ add,f.num=x.num.toNat/\(f.num:Int)=x.num:=fun f hf=>by
  have:f.num ∈ news.map (·.num):=List.mem_map_of_mem hf;rw[n1] at this;obtain⟨x,hx,e⟩:=List.mem_map.1 this;have h9:=(a1 x hx).1.1;exact⟨x,hx,e.symm,by omega⟩
 have hperm:=kq (K++news);have hKS:K.Sublist S.files:=by rw[hK];exact List.filter_sublist
 have hKn:K.Pairwise fun a b=>a.num<b.num:=hok.nums.sublist hKS;have hnd:((K++news).map (·.num)).Nodup:=by
  rw[List.map_append];refine List.nodup_append.2 ⟨?_,?_,?_⟩
  .exact List.pairwise_map.2 (hKn.imp fun h=>by omega)
  .rw[n1];refine List.pairwise_map.2 ?_;have h8:=List.pairwise_map.1 a2;refine List.Pairwise.imp_of_mem (fun {x y} hx hy hne=>?_) h8;have h6:=(a1 x hx).1.1;have h7:=(a1 y hy).1.1;omega
  .intro x hx y hy e;subst e;obtain⟨f,hf,e1⟩:=List.mem_map.1 hx;obtain⟨g,hg,e2⟩:=List.mem_map.1 hy;obtain⟨z,hz,_,e3⟩:=hnew g hg;obtain⟨k1,k2⟩:=hKm f hf;have hfz:(f.num:Int)=z.num:=by omega
   rcases(a1 z hz).2.2 with q | q
   .exact E7 q f k1 hfz
   .exact k2 (hfz ▸ q)
 have hlie:lG D.cells.length ((K++news).map fun f=>(f.first,f.blocks)):=by
  rw[List.map_append];refine⟨n3.apart.sublist (List.Sublist.append ?_ (List.Sublist.refl _)),fun p hp=>n3.each p ?_⟩
  .exact hKS.map _
  .rcases List.mem_append.1 hp with q | q
   .exact List.mem_append_left _ ((hKS.map _).mem q)
   .exact List.mem_append_right _ q
 refine⟨⟨?_,?_,?_,fun f hf=>?_⟩,fun f hf=>?_⟩
 .rw[hperm.length_eq,List.length_append];omega
 .exact uT (nN _) ((hperm.map _).nodup_iff.2 hnd)
 .have h8:(K++news).Pairwise fun a b=>a.first+a.blocks<=b.first\/b.first+b.blocks<=a.first:=List.pairwise_map.1 hlie.apart;exact(hperm.symm.pairwise_iff (fun h=>h.symm)).1 h8
 .have hf2:=hperm.mem_iff.1 hf;have h3:=hlie.each (f.first,f.blocks) (List.mem_map_of_mem hf2);rcases List.mem_append.1 hf2 with q | q
  .obtain⟨b1,b2,b3,b4,b5,b6⟩:=hok.each f (hKm f q).1;exact⟨b1,b2,b3,b4,b5,by omega⟩
  .obtain⟨z,hz,e1,e2⟩:=hnew f q;have h9:=(a1 z hz).1;have h10:=congrArg Fl.birth (n2 f q);simp only at h10;exact⟨by omega,by omega,h3.1,h3.2.1,h3.2.2,by omega⟩
 .have hf2:=hperm.mem_iff.1 hf;rcases List.mem_append.1 hf2 with q | q
  .left
   refine⟨(hKm f q).1,?_⟩;split
   .exact Nat.zero_le _
   .exact Nat.le_refl _
  .right
   refine⟨n2 f q,?_⟩;obtain⟨z,hz,e1,e2⟩:=hnew f q;rw[if_pos];rw[e2];exact List.mem_map_of_mem hz
section
variable {D:Dk} {S:aN} {sf:Nat->Nat} {lim:Nat}
theorem put_eq (h:Good D S sf lim) {fs:List Fl} (hn:fs.length<=24):
 (D.armed=1->S.put fs D=(S,D.dK (1 - S.slot) (bZ (S.turn+1) (fs.map Fl.hd)),21))/\(D.armed≠1->S.put fs D=(⟨1 - S.slot,S.turn+1,fs⟩,(D.wr (1 - S.slot) (bZ (S.turn+1) (fs.map Fl.hd))).flush.1,0)):=by
 have hs:=h.heads.lt;have h2:=h.fils.two;have hl:=h.fils.cap;have hi:(S.slot+1) % 2=1 - S.slot:=by omega
 have ht:(S.turn+1) % 18446744073709551616=S.turn+1:=Nat.mod_eq_of_lt (by omega);have hw:=ng D (1 - S.slot) (bZ (S.turn+1) (fs.map Fl.hd)) h.fils.off (by omega) (fH (by rw[List.length_map];exact hn));unfold aN.put;simp only[hi,ht,hw];constructor
 .intro ha;rw[if_pos (by rw[if_pos ha];simp),if_pos ha]
 .intro ha;have e:D.dK (1 - S.slot) (bZ (S.turn+1) (fs.map Fl.hd))=D.wr (1 - S.slot) (bZ (S.turn+1) (fs.map Fl.hd)):=by
   unfold Dk.wr Dk.dK;simp only[if_neg ha,h.fils.off]
  rw[if_neg (by rw[if_neg ha];simp),e];have hf:=du (D.wr (1 - S.slot) (bZ (S.turn+1) (fs.map Fl.hd))) rfl;rw[if_neg (by rw[hf];simp)]
theorem qC (D:Dk) (i:Nat) (b:List UInt8) (keep:List Bool) (torn bytes:Int):(D.dK i b).bS keep torn bytes=(D.wr i b).bS keep torn bytes:=rfl
end
def aZ (p:Nat):Value:= .pointer (some ⟨p,0,none⟩)
def pO (f:Fl) (v:Value):Array Value:= #[.int .i64 (f.num:Int),.int .i64 (f.first:Int),.int .i64 (f.blocks:Int),.int .u64 (f.birth:Int),.int .u64 (f.life:Int),v]
def ni (p:Nat) (f:Fl):SP:=fun h=> ∃ v ks,bT ks=f.aa/\(Pt p 163 (pO f v)*(Row 41 1 v ks.length (ks.map aE)*ca ks)) h
def br:List (Nat × Fl)->SP
 | []=>aV
 | x::l=>ni x.1 x.2*br l
def aU (s d slot turn:Nat) (v:Value) (ps:List (Nat × Fl)):SP:=
 Pt s 153 #[aZ d,.int .i64 (slot:Int),.int .u64 (turn:Int),v]*(Row 155 1 v ps.length (ps.map fun x=>aZ x.1)*br ps)
def ag (s d:Nat) (S:aN):SP:=fun h=> ∃ v ps,ps.map (·.2)=S.files/\aU s d S.slot S.turn v ps h
section
variable {w0 w:World} {F:SP} {p s d slot turn:Nat} {f:Fl} {v:Value} {ks:bP} {ps:List (Nat × Fl)} {S:aN}
theorem Sat.fl (h:Sat w0 (ni p f*F) w): ∃ v ks,bT ks=f.aa/\Sat w0 (Pt p 163 (pO f v)*(Row 41 1 v ks.length (ks.map aE)*(ca ks*F))) w:=by
 obtain⟨c,x,h1,a,g,h2,h3,⟨v,ks,h4,h5⟩,h6⟩:=h;refine⟨v,ks,h4,Sat.of (A:=(Pt p 163 (pO f v)*(Row 41 1 v ks.length (ks.map aE)*ca ks))*F) ⟨c,x,h1,a,g,h2,h3,h5,h6⟩ ?_⟩
 ac_rfl
theorem Sat.Kw (ht:bT ks=f.aa) (h:Sat w0 (Pt p 163 (pO f v)*(Row 41 1 v ks.length (ks.map aE)*(ca ks*F))) w):Sat w0 (ni p f*F) w:=by
 have h2:Sat w0 ((Pt p 163 (pO f v)*(Row 41 1 v ks.length (ks.map aE)*ca ks))*F) w:=h.of (by ac_rfl);exact h2.mono fun y ⟨a,g,h3,h4,h5,h6⟩=>⟨a,g,h3,h4,⟨v,ks,ht,h5⟩,h6⟩
theorem kg: ∀ (a b:List (Nat × Fl)),br (a++b)=br a*br b
 | [],b=>by show br b=aV*br b;rw[aX]
 | x::a,b=>by show ni x.1 x.2*br (a++b)=(ni x.1 x.2*br a)*br b;rw[kg a b,aj]
theorem BK (x:Nat × Fl):br [x]=ni x.1 x.2:=by show ni x.1 x.2*aV=_;rw[ik]
theorem sE {a b:List (Nat × Fl)} (h:a.Perm b):br a=br b:=by
 induction h with
 | nil=>rfl
 | cons x _ ih=>show ni x.1 x.2*_=ni x.1 x.2*_;rw[ih]
 | swap x y l=>show ni y.1 y.2*(ni x.1 x.2*br l)=ni x.1 x.2*(ni y.1 y.2*br l);rw[aK]
 | trans _ _ i1 i2=>exact i1.trans i2
theorem CA: ∀ (ps:List (Nat × Fl)) (i:Nat) (h:i<ps.length),br ps=ni ps[i].1 ps[i].2*br (ps.eraseIdx i)
 | x::l,0,h=>rfl
 | x::l,i+1,h=>by
  have hi:i<l.length:=by simpa using h
  show ni x.1 x.2*br l=ni l[i].1 l[i].2*(ni x.1 x.2*br (l.eraseIdx i));rw[CA l i hi,aK]
theorem nb {i:Nat} (h:i<ps.length):br ps=ni ps[i].1 ps[i].2*br (ps.eraseIdx i):=CA ps i h
theorem Jb {i:Nat} (h:i<ps.length) (x:Nat × Fl):br (ps.set i x)=ni x.1 x.2*br (ps.eraseIdx i):=by
 have h2:i<(ps.set i x).length:=by rw[List.length_set];exact h
 rw[nb h2,List.getElem_set_self,List.eraseIdx_set_eq]
theorem Sat.space (h:Sat w0 (ag s d S*F) w): ∃ v ps,ps.map (·.2)=S.files/\Sat w0 (aU s d S.slot S.turn v ps*F) w:=by
 obtain⟨c,x,h1,a,g,h2,h3,⟨v,ps,h4,h5⟩,h6⟩:=h;exact⟨v,ps,h4,c,x,h1,a,g,h2,h3,h5,h6⟩
theorem Sat.eM (ht:ps.map (·.2)=S.files) (h:Sat w0 (aU s d S.slot S.turn v ps*F) w):Sat w0 (ag s d S*F) w:=
 h.mono fun y ⟨a,g,h3,h4,h5,h6⟩=>⟨a,g,h3,h4,⟨v,ps,ht,h5⟩,h6⟩
theorem dy:aU s d slot turn v ps*F=Pt s 153 #[aZ d,.int .i64 (slot:Int),.int .u64 (turn:Int),v]*(Row 155 1 v ps.length (ps.map fun x=>aZ x.1)*(br ps*F)):=by
 unfold aU;ac_rfl
theorem fY {i:Nat} (h:i<ps.length):aU s d slot turn v ps*F=ni ps[i].1 ps[i].2*(Pt s 153 #[aZ d,.int .i64 (slot:Int),.int .u64 (turn:Int),v]*(Row 155 1 v ps.length (ps.map fun x=>aZ x.1)*(br (ps.eraseIdx i)*F))):=by
 rw[dy,nb h];ac_rfl
theorem Sat.mW (h:Sat w0 (aU s d slot turn v ps*F) w): ∃ A c,v = .slice A ps.length c/\ps.length<=c/\c<=maxLen/\aH w A (ps.map fun x=>aZ x.1)/\
 (w.cell? ⟨s,0,none⟩=some (aZ d)/\w.cell? ⟨s,1,none⟩=some (.int .i64 (slot:Int))/\w.cell? ⟨s,2,none⟩=some (.int .u64 (turn:Int))/\w.cell? ⟨s,3,none⟩=some v):=by
 have h1:=h.of dy;obtain⟨A,c,rfl,h2,h3⟩:=h1.av.aT;exact⟨A,c,rfl,h2,h3,aH.bO h1.av.aS,h1.cell 0,h1.cell 1,h1.cell 2,h1.cell 3⟩
theorem Sat.rS (h:Sat w0 (aU s d slot turn v ps*F) w) {i:Nat} (hi:i<ps.length): ∃ u ks,bT ks=ps[i].2.aa/\(w.cell? ⟨ps[i].1,0,none⟩=some (.int .i64 (ps[i].2.num:Int))/\w.cell? ⟨ps[i].1,1,none⟩=some (.int .i64 (ps[i].2.first:Int))/\w.cell? ⟨ps[i].1,2,none⟩=some (.int .i64 (ps[i].2.blocks:Int))/\
 w.cell? ⟨ps[i].1,3,none⟩=some (.int .u64 (ps[i].2.birth:Int))/\w.cell? ⟨ps[i].1,4,none⟩=some (.int .u64 (ps[i].2.life:Int))/\w.cell? ⟨ps[i].1,5,none⟩=some u)/\ ∃ A c,u = .slice A ks.length c/\ks.length<=c/\c<=maxLen/\sQ w A ks:=by
 obtain⟨u,ks,h1,h2⟩:=(h.of (fY hi)).fl;obtain⟨A,c,e,h3,h4⟩:=h2.av.aT;refine⟨u,ks,h1,⟨h2.cell 0,h2.cell 1,h2.cell 2,h2.cell 3,h2.cell 4,h2.cell 5⟩,A,c,e,h3,h4,?_,?_⟩
 .subst e;exact aH.bO h2.av.aS
 .intro k hk;exact h2.bD.Fe hk
end
def fq (ps:List (Nat × Fl)) (n:Int):Nat:=ps.findIdx fun x=>((x.2.num:Nat):Int)==n
theorem JC (ps:List (Nat × Fl)) (n:Int):fq ps n<=ps.length:=List.findIdx_le_length
theorem Dz {ps:List (Nat × Fl)} {n:Int} {i:Nat} (hi:i<ps.length) (h1:(ps[i].2.num:Int)=n) (h2: ∀ j (hj:j<i),((ps[j]'(by omega)).2.num:Int)≠n):fq ps n=i:=by
 unfold fq;rw[List.findIdx_eq hi];exact⟨by simpa using h1,fun j hj=>by simpa using h2 j hj⟩
theorem D6 {ps:List (Nat × Fl)} {n:Int} (h2: ∀ j (hj:j<ps.length),(ps[j].2.num:Int)≠n):fq ps n=ps.length:=by
 unfold fq;rw[List.findIdx_eq_length];intro x hx;obtain⟨j,hj,rfl⟩:=List.getElem_of_mem hx;simpa using h2 j hj
theorem oX {ps:List (Nat × Fl)} {S:aN} (ht:ps.map (·.2)=S.files) (n:Int):S.find n=(ps[fq ps n]?).map (·.2):=by
 unfold aN.find fq;rw[<-ht,List.find?_map];rw[<-List.find?_eq_getElem?_findIdx];rfl
section
variable {w0 w:World} {F:SP} {s d slot turn:Nat} {v:Value} {ps:List (Nat × Fl)}
def np (o:Option (Nat × Fl)):Value:=match o with | some x=>aZ x.1 | none=> .pointer none
theorem lZ {A:Option Addr} {k:Nat} (h:aH w A (ps.map fun x=>aZ x.1)) (hk:k<ps.length): ∃ b o,A=some ⟨b,o,none⟩/\w.cell? ⟨b,o+k,none⟩=some (.pointer (some ⟨ps[k].1,0,none⟩)):=by
 obtain⟨b,o,e,hc⟩:=h (by intro e;have:=congrArg List.length e;simp at this;rw[this] at hk;simp at hk);refine⟨b,o,e,?_⟩;have:=hc k (by simpa using hk);rw[this];simp[aZ]
theorem eD (n:Int) (h:Sat w0 (aU s d slot turn v ps*F) w) (hl:ps.length<=1000000):
 Calls Tryz.prog 103 #[.pointer (some ⟨s,0,none⟩),.int .i64 n] w fun e w'=>e = .returned (np ps[fq ps n]?)/\w=w':=by
 obtain⟨A,c,rfl,h1,h2,h3,h4,h5,h6,h7⟩:=h.mW;have HS:=ah h;have HR:=ah h3;clear h h3 h4 h5 h6;go_enter Tryz.func103, Tryz.ntmps103;go_wp2_with fail;go_loopw [6,12] (fun _ iv wr=> ∃ k:Nat,k<=ps.length/\iv = .int .i64 (k:Int)/\wr=w/\Hid (∀ j (hj:j<k) (hl:j<ps.length),(ps[j].2.num:Int)≠n)) (fun _ iv _=>ps.length - (intOf iv).toNat)
 case atStart=>exact⟨0,by omega,rfl,rfl,fun j hj=>by omega⟩
 case round=>
  obtain⟨k,hk,rfl,rfl,HD⟩:=hrel;by_cases hlt:k<ps.length
  .obtain⟨b,o,rfl,hc⟩:=lZ HR.o hlt;obtain⟨u,ks,hks,hg,hu⟩:=HS.o.rS hlt;have g0:=hg.1;clear hg hu;have hk2:(k:Int)<ps.length:=by omega
   by_cases e:(ps[k].2.num:Int)=n
   .have HE:Hid (fq ps n=k):=Dz hlt e (fun j hj=>HD.o j hj (by omega));have HE2:Hid (np ps[k]? = .pointer (some ⟨ps[k].1,0,none⟩)):=by unfold Hid np;rw[List.getElem?_eq_getElem hlt];rfl
    clear hks;generalize ps[k].2.num=m at*
    generalize ps[k].1=q at*
    subst e;go_wp2_with fail;go_ret;refine⟨?_,rfl⟩;rw[HE.o,HE2.o];rfl
   .have HN:Hid (∀ j (hj:j<k+1) (hl:j<ps.length),(ps[j].2.num:Int)≠n):=fun j hj hl=>by
     by_cases ej:j=k
     .subst ej;exact e
     .exact HD.o j (by omega) hl
    clear hks;generalize ps[k].2.num=m at*
    generalize ps[k].1=q at*
    go_wp2_with fail;go_roundw
    .exact⟨k+1,by omega,by push_cast;rfl,trivial,HN.o⟩
    .simp[intOf];omega
  .have HE:Hid (fq ps n=ps.length):=D6 (fun j hj=>HD.o j (by omega) hj);have hk2:¬ (k:Int)<ps.length:=by omega
   go_wp2_with fail;go_ret;refine⟨?_,rfl⟩;rw[HE.o,List.getElem?_eq_none (Nat.le_refl _)];rfl
theorem Kh:(Tryz.prog.info? 128).map (fun i=>(i.zero,i.size,i.bytes))=some (some (.agg #[.int .i64 0,.int .i64 0,.int .i64 0]),3,24):=by kernel_rfl
def LO (f:Fl):List Value:=[.int .i64 (f.num:Int),.int .i64 (f.first:Int),.int .i64 (f.blocks:Int)]
theorem uK (h:Sat w0 (aU s d slot turn v ps*F) w) (hl:ps.length<=1000000):
 Calls Tryz.prog 67 #[.pointer (some ⟨s,0,none⟩)] w fun e w'=> ∃ u,e = .returned u/\Sat w0 (Row 128 3 u ps.length ((ps.map (·.2)).flatMap LO)*(aU s d slot turn v ps*F)) w':=by
 obtain⟨i0,hi0',hz0',hz1',hz2'⟩:=info_parts Kh;have hi0:=ah hi0';have hz0:=ah hz0';have hz1:=ah hz1';have hz2:=ah hz2';obtain⟨A,c,rfl,h1,h2,h3,h4,h5,h6,h7⟩:=h.mW;have HS:=ah h;have HR:=ah h3;clear h h3 h4 h5 h6 hi0' hz0' hz1' hz2';go_enter Tryz.func67, Tryz.ntmps67;go_wp2_with fail;go_loopw [3,5,11] (fun ov _ iv wr=> ∃ (k:Nat) (C:Option Addr) (cc:Nat),k<=ps.length/\ov = .slice C k cc/\iv = .int .i64 (k:Int)/\Hid (Sat w0 (Row 128 3 (.slice C k cc) k (((ps.take k).map (·.2)).flatMap LO)*(aU s d slot turn (.slice A ps.length c) ps*F)) wr)) (fun _ _ iv _=>ps.length - (intOf iv).toNat)
 case atStart=>exact⟨0,none,0,by omega,rfl,rfl,HS.o.aI _ 3⟩
 case round=>
  obtain⟨k,C,cc,hk,rfl,rfl,HD⟩:=hrel;by_cases hlt:k<ps.length
  .obtain⟨A2,c2,e9,_,_,hR2,_⟩:=HD.o.right.mW;injection e9 with e9 _ e8
   subst e9;subst e8;obtain⟨b,o,rfl,hc⟩:=lZ hR2 hlt;obtain⟨u,ks,hks,hg,hu⟩:=HD.o.right.rS hlt;have g0:=hg.1;have g1:=hg.2.1;have g2:=hg.2.2.1;have hk2:(k:Int)<ps.length:=by omega
   have HT:Hid (((ps.take (k+1)).map (·.2)).flatMap LO=((ps.take k).map (·.2)).flatMap LO++[.int .i64 (ps[k].2.num:Int),.int .i64 (ps[k].2.first:Int),.int .i64 (ps[k].2.blocks:Int)]):=by
    unfold Hid;rw[List.take_succ_eq_append_getElem hlt,List.map_append,List.flatMap_append];rfl
   clear hg hu hks hR2;generalize ps[k].2.num=m0 at*
   generalize ps[k].2.first=m1 at*
   generalize ps[k].2.blocks=m2 at*
   generalize ps[k].1=q at*
   go_wp2_with (at_builtin;refine au rfl (.tmp 15) (.tmp 20) 105 rfl 128 i0 _ 3 24 Tryz.underlying105 hi0.o hz0.o hz1.o hz2.o rfl (by decide) (.slice C k cc) k _ rfl w0 _ (by exact HD.o.aC _) (some ⟨wr.heap.size,0,none⟩) 1 1 [.int .i64 (m0:Int),.int .i64 (m1:Int),.int .i64 (m2:Int)] rfl (aL _ _ _) rfl (by intro u hu;simp at hu;rcases hu with rfl | rfl | rfl<;>rfl) (by unfold maxLen;omega) (by omega) ?_;intro A3 c3 w3 hs;have HS3:=ah hs;clear hs);go_roundw
   .exact⟨k+1,A3,c3,by omega,rfl,by push_cast;rfl,by rw[HT.o];exact HS3.o⟩
   .simp[intOf];omega
  .obtain rfl:k=ps.length:=by omega
   have hk2:¬ ((ps.length:Nat):Int)<ps.length:=by omega
   go_wp2_with fail;go_ret;exact⟨_,rfl,by rw[<-List.take_length (l:=ps)];simpa using HD.o⟩
end
section
variable {w0 w:World} {F:SP} {s d slot turn:Nat} {v:Value} {ps:List (Nat × Fl)} {D:Dk}
theorem Sat.eI {A:Option Addr} {c n:Nat} {l:List UInt8} (h:Sat w0 (Row 5 1 (.slice A n c) n (l.map bv)*F) w):Sat w0 (ca [(A,c,l)]*F) w:=by
 obtain⟨A2,c2,e,_,_,h2⟩:=h.Be;injection e with e1 _ e3
 subst e1;subst e3;have:=sw (A,c,l);rw[<-this];exact h2
theorem Gl (h:Sat w0 (aU s d slot turn v ps*(ae d D*F)) w) (hw2:D.pend.length<=1000000000):
 Calls Tryz.prog 56 #[.pointer (some ⟨s,0,none⟩)] w fun e w'=>e = .returned (.int .i64 D.flush.2)/\Sat w0 (aU s d slot turn v ps*(ae d D.flush.1*F)) w':=by
 have HB:=ah (tz d D w0 w _ h.av hw2);obtain⟨A,c,rfl,h1,h2,h3,h4,h5,h6,h7⟩:=h.mW;unfold aZ at h4;clear h h3 h5 h6;go_enter Tryz.func56, Tryz.ntmps56;go_wp2_with (go_at_call 102;(with_reducible refine HB.o.mono ?_);rintro x wx ⟨rfl,hs⟩;have HS2:=ah hs;clear hs);go_ret;exact⟨rfl,HS2.o.av⟩
theorem JJ (n:Int) (h:Sat w0 (aU s d slot turn v ps*F) w) (hl:ps.length<=1000000) (hi:fq ps n=ps.length):
 Calls Tryz.prog 118 #[.pointer (some ⟨s,0,none⟩),.int .i64 n] w fun e w'=>e = .returned (.tuple #[.int .i64 0,.int .i64 34])/\w=w':=by
 have HF:=eD n h hl;rw[hi,List.getElem?_eq_none (Nat.le_refl _)] at HF;have HF:=ah HF;clear h hi;go_enter Tryz.func118, Tryz.ntmps118;go_wp2_with (go_at_call 103;(with_reducible refine HF.o.mono ?_);rintro x wx ⟨rfl,rfl⟩;unfold np;dsimp only);go_ret2;exact⟨rfl,rfl⟩
theorem Gw (n:Int) (h:Sat w0 (aU s d slot turn v ps*F) w) (hl:ps.length<=1000000) {i:Nat} (hi:i<ps.length) (he:fq ps n=i) (hb:ps[i].2.blocks<=65536) (hf:ps[i].2.aa.length<=ps[i].2.blocks):
 Calls Tryz.prog 118 #[.pointer (some ⟨s,0,none⟩),.int .i64 n] w fun e w'=>e = .returned (.tuple #[.int .i64 ((ps[i].2.blocks:Int) - ps[i].2.aa.length),.int .i64 0])/\Sat w0 (aU s d slot turn v ps*F) w':=by
 have HF:=eD n h hl;rw[he,List.getElem?_eq_getElem hi] at HF;have HF:=ah HF;have HS:=ah h;obtain⟨u,ks,hks,hg,A,c,rfl,hu⟩:=h.rS hi;have g2:=hg.2.2.1;have g5:=hg.2.2.2.2.2;have hkl:ks.length=ps[i].2.aa.length:=by rw[<-hks,bT,List.length_map]
 have hw:IntKind.i64.wrap ((ps[i].2.blocks:Int) - (ps[i].2.aa.length:Int))=(ps[i].2.blocks:Int) - (ps[i].2.aa.length:Int):=by rw[IntKind.wrap_i64];omega
 have HD:=ah ((Sat.drewN (h:=h)));rw[hkl] at g5;clear h hg hu hks he hkl;generalize ps[i].2.aa.length=m at*
 generalize ps[i].2.blocks=b at*
 go_enter Tryz.func118, Tryz.ntmps118;go_wp2_with (go_at_call 103;(with_reducible refine HF.o.mono ?_);rintro x wx ⟨rfl,rfl⟩;unfold np aZ;dsimp only);go_region
 all_goals
  (try go_wp2_with fail)
  go_ret2;exact⟨rfl,by first | exact HS.o | exact HS.o.drew | exact HD.o _⟩
theorem ju (k:cW): ∀ u ∈ [aE k],u.oneCell'=true:=by
 intro u hu;rw[List.mem_singleton] at hu;subst hu;rfl
theorem DK (n:Int) (h:Sat w0 (aU s d slot turn v ps*F) w) (hl:ps.length<=1000000) (hi:fq ps n=ps.length):
 Calls Tryz.prog 59 #[.pointer (some ⟨s,0,none⟩),.int .i64 n] w fun e w'=>e = .returned (.tuple #[.slice none 0 0,.int .i64 34])/\w=w':=by
 have HF:=eD n h hl;rw[hi,List.getElem?_eq_none (Nat.le_refl _)] at HF;have HF:=ah HF;clear h hi;go_enter Tryz.func59, Tryz.ntmps59;go_wp2_with (go_at_call 103;(with_reducible refine HF.o.mono ?_);rintro x wx ⟨rfl,rfl⟩;unfold np;dsimp only);go_ret2;exact⟨rfl,rfl⟩
theorem BS:(Tryz.prog.info? 41).map (fun i=>(i.zero,i.size,i.bytes))=some (some (.slice none 0 0),1,24):=by kernel_rfl
theorem AN (n:Int) (h:Sat w0 (aU s d slot turn v ps*F) w) (hl:ps.length<=1000000) {i:Nat} (hi:i<ps.length) (he:fq ps n=i) (hf:ps[i].2.aa.length<=65536) (hsm: ∀ p ∈ ps[i].2.aa,p.length<=480):
 Calls Tryz.prog 59 #[.pointer (some ⟨s,0,none⟩),.int .i64 n] w fun e w'=> ∃ u ts,e = .returned (.tuple #[u,.int .i64 0])/\bT ts=ps[i].2.aa/\Sat w0 (Row 41 1 u ts.length (ts.map aE)*(ca ts*(aU s d slot turn v ps*F))) w':=by
 obtain⟨i0,hi0',hz0',hz1',hz2'⟩:=info_parts BS;have hi0:=ah hi0';have hz0:=ah hz0';have hz1:=ah hz1';have hz2:=ah hz2';have HF:=eD n h hl;rw[he,List.getElem?_eq_getElem hi] at HF;have HF:=ah HF;obtain⟨v5,ks,hks,hfl⟩:=(h.of (fY hi)).fl;obtain⟨A,c,rfl,hu1,hu2⟩:=hfl.av.aT;have g5:w.cell? ⟨ps[i].1,5,none⟩=some (.slice A ks.length c):=hfl.cell 5;have HS:=ah hfl;have hkl:ks.length=ps[i].2.aa.length:=by rw[<-hks,bT,List.length_map]
 have HKs:=ah hks;have HSm:Hid (∀ k ∈ ks,k.2.2.length<=480):=fun k hk=>hsm k.2.2 (by rw[<-hks];exact List.mem_map_of_mem hk)
 have hk16:ks.length<=65536:=by omega
 clear h hks he hkl hf hsm hi0' hz0' hz1' hz2' hfl;obtain⟨G,hG⟩: ∃ G,G=Pt s 153 #[aZ d,.int .i64 (slot:Int),.int .u64 (turn:Int),v]*(Row 155 1 v ps.length (ps.map fun x=>aZ x.1)*(br (ps.eraseIdx i)*F)):=⟨_,rfl⟩;rw[<-hG] at HS;have HG:=ah hG;clear hG;go_enter Tryz.func59, Tryz.ntmps59;go_wp2_with (go_at_call 103;(with_reducible refine HF.o.mono ?_);rintro x wx ⟨rfl,rfl⟩;unfold np aZ;dsimp only);go_loopw [7,9,20] (fun ov _ iv wr=> ∃ (k:Nat) (C:Option Addr) (cc:Nat) (ts:bP),k<=ks.length/\ov = .slice C k cc/\iv = .int .i64 (k:Int)/\Hid (ts.length=k/\bT ts=bT (ks.take k)/\Sat w0 (Row 41 1 (.slice C k cc) k (ts.map aE)*(ca ts*(Pt ps[i].1 163 (pO ps[i].2 (.slice A ks.length c))*(Row 41 1 (.slice A ks.length c) ks.length (ks.map aE)*(ca ks*G))))) wr)) (fun _ _ iv _=>ks.length - (intOf iv).toNat)
 case atStart=>exact⟨0,none,0,[],by omega,rfl,rfl,rfl,rfl,(HS.o.lE [] (by simp)).aI _ 1⟩
 case round=>
  obtain⟨k,C,cc,ts,hk,rfl,rfl,HD⟩:=hrel;by_cases hlt:k<ks.length
  .have hrd:sQ wr A ks:=⟨aH.bO HD.o.2.2.bW.aS,fun x hx=>HD.o.2.2.gw.Fe hx⟩;obtain⟨⟨b,o,rfl,hc⟩,hx⟩:=hrd.get hlt;have hk2:(k:Int)<ks.length:=by omega
   have hxl:=HSm.o ks[k] (List.getElem_mem hlt);have HT:Hid (bT (ks.take (k+1))=bT (ks.take k)++[ks[k].2.2]):=by
    unfold Hid bT;rw[List.take_succ_eq_append_getElem hlt,List.map_append];rfl
   have HCl:=ah (eT ks[k].1 ks[k].2.1 ks[k].2.2 wr hx (by omega));clear hx hrd;generalize ks[k]=x at*
   go_wp2_with (first
    | (go_at_call 104;(with_reducible refine HCl.o.mono ?_);rintro e w2 ⟨v2,rfl,h2,_,k2⟩;have hs:=HD.o.2.2.dP k2 h2;obtain⟨A2,c2,hv2,_⟩:=hs.aT;subst hv2;have HS2:=ah (hs.eI (l:=x.2.2));clear hs h2 k2)
    | (at_builtin;refine au rfl (.tmp 24) (.tmp 27) 87 rfl 41 i0 _ 1 24 Tryz.underlying87 hi0.o hz0.o hz1.o hz2.o rfl (by decide) (.slice C k cc) k (ts.map aE) rfl w0 _ (by exact(HS2.o.aC _).av) (some ⟨w2.heap.size,0,none⟩) 1 1 [aE (A2,c2,x.2.2)] rfl (aL _ _ _) rfl (ju _) (by unfold maxLen;omega) (by omega) ?_;intro A3 c3 w3 hs3;have HS3:=ah hs3;clear hs3))
   go_roundw
   .refine⟨k+1,A3,c3,ts++[(A2,c2,x.2.2)],by omega,rfl,by push_cast;rfl,?_,?_,?_⟩
    .rw[List.length_append,HD.o.1];rfl
    .rw[HT.o, <-HD.o.2.1,bT,List.map_append];rfl
    .rw[List.map_append];exact HS3.o.of (by rw[<-iM,List.map_singleton];ac_rfl)
   .simp[intOf];omega
  .obtain rfl:k=ks.length:=by omega
   have hk2:¬ ((ks.length:Nat):Int)<ks.length:=by omega
   go_wp2_with fail;go_ret2;refine⟨_,rfl,ts,?_,?_⟩
   .rw[HD.o.2.1,List.take_length];exact HKs.o
   .rw[HD.o.1];have h9:=Sat.Kw HKs.o (HD.o.2.2.of (show _=Pt ps[i].1 163 (pO ps[i].2 (.slice A ks.length c))*(Row 41 1 (.slice A ks.length c) ks.length (ks.map aE)*(ca ks*(Row 41 1 (.slice C ks.length cc) ks.length (ts.map aE)*(ca ts*G)))) by ac_rfl));refine h9.of ?_;rw[HG.o,fY hi]
    ac_rfl
end
end Go.Proofs.YtmbaiglpgaoogaaGreat
