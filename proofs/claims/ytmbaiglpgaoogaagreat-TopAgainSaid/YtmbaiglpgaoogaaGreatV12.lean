/- Joined, as they were built one by one: Blk6 ExtD ExtB ExtL ExtG. -/
import Derived.Deep.CutBlock
import Derived.Test.YtmbaiglpgaoogaaGreatV11
namespace Go.Proofs.YtmbaiglpgaoogaaGreat
open Go.RowKit
set_option linter.unusedVariables false
set_option maxRecDepth 100000
def tornB (torn bytes:Int) (i:Nat):Bool:=decide ((i:Int)=torn/\1<=bytes/\bytes<512)
def keepB (keep:List Bool) (i:Nat):Bool:=keep[i]?.getD false
def onStep (keep:List Bool) (torn bytes:Int) (cells:List (List UInt8 × Bool)) (x:(Nat × List UInt8) × Nat):List (List UInt8 × Bool):=
 if tornB torn bytes x.2 then cells.set x.1.1 ([],true) else if keepB keep x.2 then lay cells x.1 else cells
def onAll (keep:List Bool) (torn bytes:Int) (cells:List (List UInt8 × Bool)) (ps:List (Nat × List UInt8)):List (List UInt8 × Bool):=ps.zipIdx.foldl (onStep keep torn bytes) cells
def Dk.on (D:Dk) (keep:List Bool) (torn bytes:Int):Dk:=if D.off then ⟨onAll keep torn bytes D.cells D.pend,[],0,D.writes,false⟩ else D
def valC (x:List UInt8 × Bool):List UInt8 × Int:=if x.2 then ([],24) else if x.1=[] then (List.replicate 512 0,0) else (x.1,0)
structure WfD (D:Dk):Prop where
 pend: ∀ x ∈ D.pend,x.1<D.cells.length/\x.2.length=512
def May (D:Dk) (i:Nat) (r:List UInt8 × Int):Prop:=(∃ x,D.cells[i]?=some x/\r=valC x)\/ ∃ b,(i,b) ∈ D.pend/\(r=(b,0)\/r=([],24))
theorem dk_ask (D:Dk) (i:Nat) (h:D.off=false) (hi:i<D.cells.length):D.ask i=0:=by
 unfold Dk.ask;rw[h,if_neg (by simp),if_pos (by omega)]
theorem read_last (D:Dk) (i:Nat) (h:D.off=false) (hi:i<D.cells.length) {b:List UInt8} (hb:D.last i=some b):D.read i=(b,0):=by
 unfold Dk.read;rw[if_pos (dk_ask D i h hi),hb]
theorem read_cell (D:Dk) (i:Nat) (h:D.off=false) (hi:i<D.cells.length) (hb:D.last i=none):D.read i=valC D.cells[i]:=by
 unfold Dk.read;rw[if_pos (dk_ask D i h hi),hb,Int.toNat_natCast,List.getElem?_eq_getElem hi];rfl
theorem last_mem (D:Dk) (i:Nat) {b:List UInt8} (hb:D.last i=some b):(i,b) ∈ D.pend:=by
 unfold Dk.last at hb;obtain⟨x,h1,h2⟩:=Option.map_eq_some_iff.1 hb;have h3:=List.mem_reverse.1 (List.mem_of_find?_eq_some h1);have h4:=List.find?_some h1;have h5:x.1=i:=by
  have:((x.1:Nat):Int)=(i:Int):=by simpa using h4
  omega
 obtain⟨a,c⟩:=x;simp only at h2 h5;subst h2;subst h5;exact h3
theorem may_read (D:Dk) (i:Nat) (h:D.off=false) (hi:i<D.cells.length):May D i (D.read i):=by
 cases hb:D.last i with
 | none=>rw[read_cell D i h hi hb];exact .inl ⟨_,List.getElem?_eq_getElem hi,rfl⟩
 | some b=>rw[read_last D i h hi hb];exact .inr ⟨b,last_mem D i hb,.inl rfl⟩
theorem last_nil (D:Dk) (h:D.pend=[]) (i:Int):D.last i=none:=by unfold Dk.last;rw[h];rfl
theorem may_nil (D:Dk) (i:Nat) (hp:D.pend=[]) (h:D.off=false) (hi:i<D.cells.length) {r:List UInt8 × Int} (hr:May D i r):r=D.read i:=by
 rcases hr with ⟨x,h1,h2⟩ | ⟨b,h1,_⟩
 .rw[read_cell D i h hi (last_nil D hp i),h2];rw[List.getElem?_eq_getElem hi] at h1;injection h1 with h1
  rw[h1]
 .rw[hp] at h1;cases h1
theorem read_off (D:Dk) (i:Int) (h:D.off=true):D.read i=([],21):=by
 have:D.ask i=21:=by unfold Dk.ask;rw[h];rfl
 unfold Dk.read;rw[this];rfl
theorem write_took (D:Dk) (i:Nat) (b:List UInt8) (h:D.off=false) (hi:i<D.cells.length) (hb:b.length=512):D.write i b=(D.took i b,if D.armed=1 then 21 else 0):=by
 unfold Dk.write;rw[if_pos (dk_ask D i h hi),if_pos hb,Int.toNat_natCast]
theorem took_last (D:Dk) (i j:Nat) (b:List UInt8):(D.took i b).last j=if j=i then some b else D.last j:=by
 unfold Dk.last Dk.took;simp only[List.reverse_append,List.reverse_cons,List.reverse_nil,List.nil_append,List.singleton_append,List.find?_cons];by_cases h:j=i
 .subst h;simp
 .have h2:(((i:Nat):Int)==(j:Int))=false:=by simp;omega
  rw[h2,if_neg h]
theorem took_may (D:Dk) (i j:Nat) (b:List UInt8) {r:List UInt8 × Int} (hr:May (D.took i b) j r):May D j r\/(j=i/\(r=(b,0)\/r=([],24))):=by
 rcases hr with ⟨x,h1,h2⟩ | ⟨c,h1,h2⟩
 .exact .inl (.inl ⟨x,h1,h2⟩)
 .rcases List.mem_append.1 h1 with h3 | h3
  .exact .inl (.inr ⟨c,h3,h2⟩)
  .rw[List.mem_singleton] at h3;injection h3 with h4 h5
   subst h5;exact .inr ⟨h4,h2⟩
theorem took_wf {D:Dk} (hw:WfD D) {i:Nat} {b:List UInt8} (hi:i<D.cells.length) (hb:b.length=512):WfD (D.took i b):=
 ⟨fun x hx=>by
  rcases List.mem_append.1 hx with h | h
  .exact hw.pend x h
  .rw[List.mem_singleton] at h;subst h;exact⟨hi,hb⟩⟩
theorem lay_len (ps:List (Nat × List UInt8)): ∀ cells:List (List UInt8 × Bool),(ps.foldl lay cells).length=cells.length:=by
 induction ps with
 | nil=>intro _;rfl
 | cons p ps ih=>intro cells;rw[List.foldl_cons,ih];unfold lay;rw[List.length_set]
theorem lay_get: ∀ (ps:List (Nat × List UInt8)) (cells:List (List UInt8 × Bool)) (i:Nat) (hi:i<cells.length),
  (ps.foldl lay cells)[i]?=match (ps.reverse.find? fun x=>((x.1:Nat):Int)==(i:Int)) with | some x=>some (x.2,false) | none=>cells[i]?
 | [],cells,i,hi=>rfl
 | p::ps,cells,i,hi=>by
  rw[List.foldl_cons,lay_get ps (lay cells p) i (by unfold lay;rw[List.length_set];exact hi),List.reverse_cons,List.find?_append]
  cases hf:(ps.reverse.find? fun x=>((x.1:Nat):Int)==(i:Int)) with
  | some x=>rfl
  | none=>
   simp only[Option.none_or,List.find?_cons,List.find?_nil];unfold lay;by_cases e:p.1=i
   .subst e;simp[hi]
   .have h2:(((p.1:Nat):Int)==(i:Int))=false:=by simp;omega
    rw[h2,List.getElem?_set_ne e]
theorem flush_on (D:Dk) (h:D.off=false):D.flush=({ D with cells:=D.pend.foldl lay D.cells,pend:=[] },0):=by unfold Dk.flush;rw[h];rfl
theorem flush_read (D:Dk) (hw:WfD D) (h:D.off=false) (i:Nat) (hi:i<D.cells.length):(D.flush.1).read i=D.read i:=by
 rw[flush_on D h];have hl:=lay_len D.pend D.cells;have h2:=read_cell ({ D with cells:=D.pend.foldl lay D.cells,pend:=[] }:Dk) i h (by simp only[hl];exact hi) (last_nil _ rfl i);rw[h2];have h3:=lay_get D.pend D.cells i hi;have h4:(D.pend.foldl lay D.cells)[i]?=some ((D.pend.foldl lay D.cells)[i]'(by rw[hl];exact hi)):=List.getElem?_eq_getElem _;rw[h4] at h3
 cases hb:D.last i with
 | none=>
  rw[read_cell D i h hi hb];unfold Dk.last at hb;rw[Option.map_eq_none_iff] at hb;rw[hb] at h3;simp only[List.getElem?_eq_getElem hi] at h3;injection h3 with h3
  rw[<-h3]
 | some b=>
  rw[read_last D i h hi hb];have hm:=(hw.pend _ (last_mem D i hb)).2;unfold Dk.last at hb;obtain⟨x,h5,h6⟩:=Option.map_eq_some_iff.1 hb;rw[h5] at h3;simp only at h3;injection h3 with h3
  show valC ((D.pend.foldl lay D.cells)[i]'_)=_;rw[h3,h6];unfold valC;simp only[Bool.false_eq_true,if_false];rw[if_neg (by intro e;simp only at hm;rw[e] at hm;simp at hm)]
theorem onStep_len (keep:List Bool) (torn bytes:Int) (cells:List (List UInt8 × Bool)) (x:(Nat × List UInt8) × Nat):(onStep keep torn bytes cells x).length=cells.length:=by
 unfold onStep lay;split
 .rw[List.length_set]
 .split
  .rw[List.length_set]
  .rfl
theorem onAll_get (keep:List Bool) (torn bytes:Int): ∀ (xs:List ((Nat × List UInt8) × Nat)) (cells:List (List UInt8 × Bool)) (i:Nat) (x:List UInt8 × Bool),(xs.foldl (onStep keep torn bytes) cells)[i]?=some x->
  cells[i]?=some x\/ ∃ b k,((i,b),k) ∈ xs/\(x=(b,false)\/x=([],true))
 | [],cells,i,x,h=> .inl h
 | p::ps,cells,i,x,h=>by
  rw[List.foldl_cons] at h;rcases onAll_get keep torn bytes ps _ i x h with h1 | ⟨b,k,h1,h2⟩
  .unfold onStep lay at h1;split at h1
   .by_cases e:p.1.1=i
    .subst e;rw[List.getElem?_set] at h1;split at h1
     .split at h1
      .injection h1 with h1
       exact .inr ⟨p.1.2,p.2,by simp,.inr h1.symm⟩
      .cases h1
     .exact .inl h1
    .rw[List.getElem?_set_ne e] at h1;exact .inl h1
   .split at h1
    .by_cases e:p.1.1=i
     .subst e;rw[List.getElem?_set] at h1;split at h1
      .split at h1
       .injection h1 with h1
        exact .inr ⟨p.1.2,p.2,by simp,.inl h1.symm⟩
       .cases h1
      .exact .inl h1
     .rw[List.getElem?_set_ne e] at h1;exact .inl h1
    .exact .inl h1
  .exact .inr ⟨b,k,List.mem_cons_of_mem _ h1,h2⟩
theorem onAll_len (keep:List Bool) (torn bytes:Int): ∀ (xs:List ((Nat × List UInt8) × Nat)) (cells:List (List UInt8 × Bool)),(xs.foldl (onStep keep torn bytes) cells).length=cells.length
 | [],cells=>rfl
 | p::ps,cells=>by rw[List.foldl_cons,onAll_len keep torn bytes ps,onStep_len]
def Dk.crash (D:Dk) (keep:List Bool) (torn bytes:Int):Dk:=({ D with off:=true }:Dk).on keep torn bytes
section
variable {D:Dk} {keep:List Bool} {torn bytes:Int}
theorem crash_eq:D.crash keep torn bytes=⟨onAll keep torn bytes D.cells D.pend,[],0,D.writes,false⟩:=rfl
theorem crash_len:(D.crash keep torn bytes).cells.length=D.cells.length:=by rw[crash_eq];exact onAll_len keep torn bytes _ _
theorem crash_pend:(D.crash keep torn bytes).pend=[]:=rfl
theorem crash_off:(D.crash keep torn bytes).off=false:=rfl
theorem crash_wf:WfD (D.crash keep torn bytes):=⟨fun x hx=>by rw[crash_pend] at hx;cases hx⟩
theorem crash_may (hw:WfD D) (i:Nat) (hi:i<D.cells.length):May D i ((D.crash keep torn bytes).read i):=by
 have hl:i<(D.crash keep torn bytes).cells.length:=by rw[crash_len];exact hi
 rw[read_cell _ i crash_off hl (last_nil _ crash_pend i)];have h1:(D.crash keep torn bytes).cells[i]?=some ((D.crash keep torn bytes).cells[i]'hl):=List.getElem?_eq_getElem hl;obtain⟨x,hx⟩: ∃ x,x=(D.crash keep torn bytes).cells[i]'hl:=⟨_,rfl⟩;rw[<-hx] at h1 ⊢;rcases onAll_get keep torn bytes D.pend.zipIdx D.cells i x h1 with h2 | ⟨b,k,h2,h3⟩
 .exact .inl ⟨x,h2,rfl⟩
 .have hm:(i,b) ∈ D.pend:=List.mem_of_getElem? (List.mem_zipIdx_iff_getElem?.1 h2);refine .inr ⟨b,hm,?_⟩;rcases h3 with rfl | rfl
  .left
   have:=(hw.pend _ hm).2;unfold valC;simp only[Bool.false_eq_true,if_false];rw[if_neg (by intro e;simp only at this;rw[e] at this;simp at this)]
  .right;rfl
end
theorem padB_len {l:List UInt8} (h:l.length<=512):(padB l).length=512:=by unfold padB;rw[List.length_append,List.length_replicate];omega
theorem hdB_len (h:Hd):(hdB h).length=20:=by unfold hdB;simp only[List.length_append,putB_len]
theorem heads_len: ∀ hs:List Hd,(hs.map hdB).flatten.length=20*hs.length
 | []=>rfl
 | h::hs=>by rw[List.map_cons,List.flatten_cons,List.length_append,hdB_len,heads_len hs,List.length_cons];omega
theorem headB_len (turn:Nat) (hs:List Hd):(headB turn hs).length=13+20*hs.length:=by
 unfold headB;simp only[List.length_append,putB_len,heads_len];show 4+_=_;omega
theorem sealB_len {turn:Nat} {hs:List Hd} (h:hs.length<=24):(sealB turn hs).length=512:=padB_len (by rw[headB_len];omega)
theorem frame_len {birth life:Nat} {p:List UInt8} (h:p.length<=480):(frameB birth life p).length=512:=padB_len (by simp only[List.length_append,putB_len];omega)
def HdOk (h:Hd):Prop:=h.num<4294967296/\h.first<4294967296/\h.blocks<4294967296/\h.birth<18446744073709551616
theorem get4 {x:Nat} (h:x<4294967296):getN (putB x 4)=x:=by rw[get_put];exact Nat.mod_eq_of_lt h
theorem get8 {x:Nat} (h:x<18446744073709551616):getN (putB x 8)=x:=by rw[get_put];exact Nat.mod_eq_of_lt h
theorem get2 {x:Nat} (h:x<65536):getN (putB x 2)=x:=by rw[get_put];exact Nat.mod_eq_of_lt h
theorem hdOf_hdB {h:Hd} (ho:HdOk h) (r:List UInt8):hdOf (hdB h++r)=h:=by
 obtain⟨n,f,b,i⟩:=h;obtain⟨h1,h2,h3,h4⟩:=ho;unfold hdOf hdB;have l1:=putB_len n 4;have l2:=putB_len f 4;have l3:=putB_len b 4;have l4:=putB_len i 8;simp only[List.append_assoc];have e4:(putB n 4++(putB f 4++(putB b 4++(putB i 8++r)))).drop 4=putB f 4++(putB b 4++(putB i 8++r)):=List.drop_left' l1;have e8:(putB n 4++(putB f 4++(putB b 4++(putB i 8++r)))).drop 8=putB b 4++(putB i 8++r):=by
  rw[show (8:Nat)=4+4 from rfl, <-List.drop_drop,e4];exact List.drop_left' l2
 have e12:(putB n 4++(putB f 4++(putB b 4++(putB i 8++r)))).drop 12=putB i 8++r:=by
  rw[show (12:Nat)=8+4 from rfl, <-List.drop_drop,e8];exact List.drop_left' l3
 rw[e4,e8,e12,List.take_left' l1,List.take_left' l2,List.take_left' l3,List.take_left' l4,get4 h1,get4 h2,get4 h3,get8 h4]
theorem rowsH_seal: ∀ (hs:List Hd) (r:List UInt8),(∀ h ∈ hs,HdOk h)->rowsH hs.length ((hs.map hdB).flatten++r)=hs
 | [],r,_=>rfl
 | h::hs,r,ho=>by
  rw[List.map_cons,List.flatten_cons,List.append_assoc,List.length_cons];unfold rowsH;rw[hdOf_hdB (ho h (by simp)),List.drop_left' (hdB_len h),rowsH_seal hs r (fun x hx=>ho x (List.mem_cons_of_mem _ hx))]
theorem put1 {n:Nat} (h:n<256):putB n 1=[UInt8.ofNat n]:=by
 show [byteAt n 1 0]=_;unfold byteAt;simp only[Nat.sub_self,Nat.pow_zero,Nat.div_one,Nat.mod_eq_of_lt h]
theorem unseal_seal {turn:Nat} {hs:List Hd} (ht:turn<18446744073709551616) (hn:hs.length<=24) (ho: ∀ h ∈ hs,HdOk h):unsealB (sealB turn hs)=some (turn,hs):=by
 obtain⟨z,hz⟩: ∃ z,z=List.replicate (512 - (headB turn hs).length) (0:UInt8):=⟨_,rfl⟩;obtain⟨R,hR⟩: ∃ R,R=(hs.map hdB).flatten:=⟨_,rfl⟩;have e:sealB turn hs=markX++(putB turn 8++(UInt8.ofNat hs.length::(R++z))):=by
  unfold sealB padB;rw[<-hz];unfold headB;rw[put1 (by omega), <-hR];simp only[List.append_assoc,List.cons_append,List.nil_append]
 have l8:=putB_len turn 8;have d4:(sealB turn hs).drop 4=putB turn 8++(UInt8.ofNat hs.length::(R++z)):=by rw[e];rfl
 have d12:(sealB turn hs).drop 12=UInt8.ofNat hs.length::(R++z):=by
  rw[show (12:Nat)=4+8 from rfl, <-List.drop_drop,d4];exact List.drop_left' l8
 have d13:(sealB turn hs).drop 13=R++z:=by rw[show (13:Nat)=12+1 from rfl, <-List.drop_drop,d12];rfl
 have g12:(sealB turn hs).getD 12 0=UInt8.ofNat hs.length:=by
  have h9:(sealB turn hs)[12]?=((sealB turn hs).drop 12)[0]?:=by rw[List.getElem?_drop]
  rw[List.getD_eq_getElem?_getD,h9,d12];rfl
 have gn:((sealB turn hs).getD 12 0).toNat=hs.length:=by rw[g12,UInt8.toNat_ofNat',Nat.mod_eq_of_lt (by omega)]
 unfold unsealB;rw[gn,d4,d13,List.take_left' l8,get8 ht,hR,rowsH_seal hs z ho,if_pos ⟨by rw[e];rfl,hn⟩]
theorem frame_parts {birth life:Nat} {p:List UInt8} (hb:birth<18446744073709551616) (hl:life<18446744073709551616) (hp:p.length<=480):
  (frameB birth life p).take 8=putB birth 8/\((frameB birth life p).drop 8).take 8=putB life 8/\((frameB birth life p).drop 16).take 2=putB p.length 2/\((frameB birth life p).drop 18).take p.length=p:=by
 obtain⟨z,hz⟩: ∃ z,z=List.replicate (512 - (putB birth 8++(putB life 8++(putB p.length 2++p))).length) (0:UInt8):=⟨_,rfl⟩;have e:frameB birth life p=putB birth 8++(putB life 8++(putB p.length 2++(p++z))):=by
  unfold frameB padB;rw[<-hz];simp only[List.append_assoc]
 have l1:=putB_len birth 8;have l2:=putB_len life 8;have l3:=putB_len p.length 2;have d8:(frameB birth life p).drop 8=putB life 8++(putB p.length 2++(p++z)):=by rw[e];exact List.drop_left' l1
 have d16:(frameB birth life p).drop 16=putB p.length 2++(p++z):=by rw[show (16:Nat)=8+8 from rfl, <-List.drop_drop,d8];exact List.drop_left' l2
 have d18:(frameB birth life p).drop 18=p++z:=by rw[show (18:Nat)=16+2 from rfl, <-List.drop_drop,d16];exact List.drop_left' l3
 exact⟨by rw[e];exact List.take_left' l1,by rw[d8];exact List.take_left' l2,by rw[d16];exact List.take_left' l3,by rw[d18];exact List.take_left' rfl⟩
section
variable {birth life:Nat} {p:List UInt8} (hb:birth<18446744073709551616) (hl:life<18446744073709551616) (hp:p.length<=480)
include hb hl hp
theorem frame_birth:getN ((frameB birth life p).take 8)=birth:=by rw[(frame_parts hb hl hp).1,get8 hb]
theorem frame_good:goodB birth (frameB birth life p)=true:=by
 unfold goodB;rw[frame_birth hb hl hp,(frame_parts hb hl hp).2.2.1,get2 (by omega)];exact decide_eq_true ⟨rfl,hp⟩
theorem frame_life:lifeB (frameB birth life p)=life:=by unfold lifeB;rw[(frame_parts hb hl hp).2.1,get8 hl]
theorem frame_body:bodyX (frameB birth life p)=p:=by unfold bodyX;rw[(frame_parts hb hl hp).2.2.1,get2 (by omega)];exact(frame_parts hb hl hp).2.2.2
end
def Junk (birth last:Nat) (r:List UInt8 × Int):Prop:=r.2≠0\/goodB birth r.1=false\/lifeB r.1<last
def lastL (ls:List Nat) (m:Nat):Nat:=if m=0 then 0 else ls.getD (m - 1) 0
section
variable {D:Dk} {birth first:Nat}
theorem ld_succ (k:Nat):ldRun D birth first (k+1)=ldStep birth (D.read ((first+k:Nat):Int)) (ldRun D birth first k):=rfl
theorem ld_over (k:Nat) (h:(ldRun D birth first k).over=true):(ldRun D birth first (k+1)).over=true/\(ldRun D birth first (k+1)).frames=(ldRun D birth first k).frames:=by
 rw[ld_succ];unfold ldStep;split
 .exact⟨rfl,rfl⟩
 .split
  .exact⟨rfl,rfl⟩
  .rw[if_pos (.inl h)];exact⟨rfl,rfl⟩
theorem ld_overs (k:Nat) (h:(ldRun D birth first k).over=true): ∀ j,(ldRun D birth first (k+j)).over=true/\(ldRun D birth first (k+j)).frames=(ldRun D birth first k).frames
 | 0=>⟨h,rfl⟩
 | j+1=>by
  obtain⟨h1,h2⟩:=ld_overs k h j;obtain⟨h3,h4⟩:=ld_over (k+j) h1;exact⟨h3,h4.trans h2⟩
theorem ld_most_mono (k:Nat):(ldRun D birth first k).most<=(ldRun D birth first (k+1)).most:=by
 rw[ld_succ];unfold ldStep;split
 .exact Nat.le_refl _
 .split
  .exact Nat.le_refl _
  .split
   .exact Nat.le_max_left _ _
   .exact Nat.le_max_left _ _
theorem ld_most_le (a:Nat): ∀ j,(ldRun D birth first a).most<=(ldRun D birth first (a+j)).most
 | 0=>Nat.le_refl _
 | j+1=>Nat.le_trans (ld_most_le a j) (ld_most_mono (a+j))
theorem ld_most_ge {n k:Nat} (hk:k<n) (h1:(D.read ((first+k:Nat):Int)).2=0) (h2:goodB birth (D.read ((first+k:Nat):Int)).1=true):lifeB (D.read ((first+k:Nat):Int)).1<=(ldRun D birth first n).most:=by
 have h3:lifeB (D.read ((first+k:Nat):Int)).1<=(ldRun D birth first (k+1)).most:=by
  rw[ld_succ];unfold ldStep;rw[if_neg (by rw[h1];simp),if_neg (by rw[h2];simp)];split
  .exact Nat.le_max_right _ _
  .exact Nat.le_max_right _ _
 have h4:=ld_most_le (D:=D) (birth:=birth) (first:=first) (k+1) (n - (k+1));rw[show k+1+(n - (k+1))=n by omega] at h4;omega
theorem ld_most_bound {B:Nat}: ∀ n,(∀ k,k<n->(D.read ((first+k:Nat):Int)).2=0->goodB birth (D.read ((first+k:Nat):Int)).1=true->lifeB (D.read ((first+k:Nat):Int)).1<=B)->(ldRun D birth first n).most<=B
 | 0,_=>Nat.zero_le _
 | n+1,h=>by
  have ih:=ld_most_bound n (fun k hk=>h k (by omega));have hn:=h n (by omega);rw[ld_succ];unfold ldStep;split
  .exact ih
  .rename_i h1;split
   .exact ih
   .rename_i h2;have h3:=hn (by simpa using h1) (by simpa using h2);split
    .exact Nat.max_le.2 ⟨ih,h3⟩
    .exact Nat.max_le.2 ⟨ih,h3⟩
theorem ld_take {fr:List (List UInt8)} {ls:List Nat} (hb:birth<18446744073709551616) (hs: ∀ p ∈ fr,p.length<=480) (hl: ∀ k,k<fr.length->ls.getD k 0<18446744073709551616) (hso: ∀ k,k+1<fr.length->ls.getD k 0<=ls.getD (k+1) 0):
  ∀ m,m<=fr.length->(∀ k (h:k<fr.length),k<m->D.read ((first+k:Nat):Int)=(frameB birth (ls.getD k 0) fr[k],0))->
  (ldRun D birth first m).over=false/\(ldRun D birth first m).last=lastL ls m/\(ldRun D birth first m).frames=fr.take m
 | 0,_,_=>⟨rfl,rfl,rfl⟩
 | m+1,hm,h=>by
  obtain⟨i1,i2,i3⟩:=ld_take hb hs hl hso m (by omega) (fun k hk hkm=>h k hk (by omega));have hr:=h m (by omega) (by omega);have hp:=hs fr[m] (List.getElem_mem _);have hlm:=hl m (by omega);have g1:=frame_good hb hlm hp;have g2:=frame_life hb hlm hp;have g3:=frame_body hb hlm hp;have hle:lastL ls m<=ls.getD m 0:=by
   unfold lastL;split
   .exact Nat.zero_le _
   .have:=hso (m - 1) (by omega);rwa [show m - 1+1=m by omega] at this
  rw[ld_succ];unfold ldStep;rw[hr];dsimp only;rw[if_neg (by simp),if_neg (by rw[g1];simp),if_neg (by rw[i1,i2,g2];rintro (h5 | h5);cases h5;omega)];refine⟨rfl,?_,?_⟩
  .show lifeB _=_;rw[g2];unfold lastL;rw[if_neg (by omega)];rfl
  .show _++[bodyX _]=_;rw[i3,g3,List.take_succ_eq_append_getElem (by omega)]
theorem ld_stop {ls:List Nat} {m:Nat} (h1:(ldRun D birth first m).last=lastL ls m) (hj:Junk birth (lastL ls m) (D.read ((first+m:Nat):Int))):
  (ldRun D birth first (m+1)).over=true/\(ldRun D birth first (m+1)).frames=(ldRun D birth first m).frames:=by
 rw[ld_succ];unfold ldStep;by_cases e1:(D.read ((first+m:Nat):Int)).2=0
 .rw[if_neg (by rw[e1];simp)];by_cases e2:goodB birth (D.read ((first+m:Nat):Int)).1=true
  .rw[if_neg (by rw[e2];simp),if_pos]
   .exact⟨rfl,rfl⟩
   .right
    rw[h1];rcases hj with h | h | h
    .exact absurd e1 h
    .rw[h] at e2;cases e2
    .exact h
  .rw[if_pos (by simpa using e2)];exact⟨rfl,rfl⟩
 .rw[if_pos e1];exact⟨rfl,rfl⟩
end
structure FileOk (D:Dk) (f:Fl) (ls:List Nat) (safe:Nat):Prop where
 len:ls.length=f.frames.length
 fits:f.frames.length<=f.blocks
 small: ∀ p ∈ f.frames,p.length<=480
 sorted: ∀ k,k+1<f.frames.length->ls.getD k 0<=ls.getD (k+1) 0
 top: ∀ k,k<f.frames.length->ls.getD k 0<=f.life
 safeLe:safe<=f.frames.length
 now: ∀ k (h:k<f.frames.length),D.read ((f.first+k:Nat):Int)=(frameB f.birth (ls.getD k 0) f.frames[k],0)
 all: ∀ k r,k<f.blocks->May D (f.first+k) r->r.2=0->goodB f.birth r.1=true->lifeB r.1<=(ldRun D f.birth f.first f.blocks).most
 most:(ldRun D f.birth f.first f.blocks).most<=f.life
 new:(ldRun D f.birth f.first f.blocks).most=f.life->0<f.frames.length/\lastL ls f.frames.length=f.life
 behind: ∀ k r,f.frames.length<=k->k<f.blocks->May D (f.first+k) r->Junk f.birth f.life r
 gap:f.frames.length<f.blocks-> ∀ r,May D (f.first+f.frames.length) r->Junk f.birth (lastL ls f.frames.length) r
 lost: ∀ k (h:k<f.frames.length) r,May D (f.first+k) r->r=(frameB f.birth (ls.getD k 0) f.frames[k],0)\/(safe<=k/\Junk f.birth (lastL ls k) r)
theorem FileOk.less {D:Dk} {f:Fl} {ls:List Nat} {s t:Nat} (h:FileOk D f ls s) (hts:t<=s):FileOk D f ls t:=
 ⟨h.len,h.fits,h.small,h.sorted,h.top,Nat.le_trans hts h.safeLe,h.now,h.all,h.most,h.new,h.behind,h.gap,fun k hk r hr=>(h.lost k hk r hr).imp id fun ⟨h1,h2⟩=>⟨by omega,h2⟩⟩
theorem first_fail {P:Nat->Prop}: ∀ n, ∃ m,m<=n/\(∀ j,j<m->P j)/\(m<n->¬ P m)
 | 0=>⟨0,Nat.le_refl _,fun j h=>by omega,fun h=>by omega⟩
 | n+1=>by
  obtain⟨m,h1,h2,h3⟩:=first_fail (P:=P) n;by_cases hm:m<n
  .exact⟨m,by omega,h2,fun _=>h3 hm⟩
  .have:m=n:=by omega
   subst this;by_cases hp:P m
   .exact⟨m+1,Nat.le_refl _,fun j hj=>by
     by_cases e:j=m
     .subst e;exact hp
     .exact h2 j (by omega),fun h=>by omega⟩
   .exact⟨m,by omega,h2,fun _=>hp⟩
section
variable {D E:Dk} {f:Fl} {ls:List Nat} {safe:Nat}
theorem FileOk.loads (h:FileOk D f ls safe) (hb:f.birth<18446744073709551616) (hl:f.life<18446744073709551616) (hE: ∀ k,k<f.blocks->May D (f.first+k) (E.read ((f.first+k:Nat):Int))):
  ∃ m,safe<=m/\m<=f.frames.length/\(ldRun E f.birth f.first f.blocks).frames=f.frames.take m/\
   (∀ k (hk:k<f.frames.length),k<m->E.read ((f.first+k:Nat):Int)=(frameB f.birth (ls.getD k 0) f.frames[k],0))/\
   (m<f.blocks->Junk f.birth (lastL ls m) (E.read ((f.first+m:Nat):Int))):=by
 obtain⟨m,h1,h2,h3⟩:=first_fail (P:=fun k=> ∀ hk:k<f.frames.length,E.read ((f.first+k:Nat):Int)=(frameB f.birth (ls.getD k 0) f.frames[k],0)) f.frames.length;have hfit:=h.fits;have hj:m<f.blocks->Junk f.birth (lastL ls m) (E.read ((f.first+m:Nat):Int)):=fun hm=>by
  by_cases e:m<f.frames.length
  .have h4:=h3 e;rcases h.lost m e _ (hE m hm) with h5 | h5
   .exact absurd (fun _=>h5) h4
   .exact h5.2
  .have:m=f.frames.length:=by omega
   subst this;exact h.gap hm _ (hE _ hm)
 have hsafe:safe<=m:=by
  rcases Nat.lt_or_ge m safe with hlt | hge
  .have hs:=h.safeLe;have e:m<f.frames.length:=by omega
   rcases h.lost m e _ (hE m (by omega)) with h5 | h5
   .exact absurd (fun _=>h5) (h3 e)
   .omega
  .exact hge
 have ht:=ld_take (D:=E) (first:=f.first) hb h.small (fun k hk=>by have:=h.top k hk;omega) h.sorted m h1 (fun k hk hkm=>h2 k hkm hk);refine⟨m,hsafe,h1,?_,fun k hk hkm=>h2 k hkm hk,hj⟩;by_cases hm:m<f.blocks
 .have hst:=ld_stop ht.2.1 (hj hm);have ho:=ld_overs (m+1) hst.1 (f.blocks - (m+1));rw[show m+1+(f.blocks - (m+1))=f.blocks by omega] at ho;rw[ho.2,hst.2,ht.2.2]
 .have:m=f.blocks:=by omega
  rw[<-this];exact ht.2.2
theorem FileOk.most2 (h:FileOk D f ls safe) (hE: ∀ k,k<f.blocks->May D (f.first+k) (E.read ((f.first+k:Nat):Int))):(ldRun E f.birth f.first f.blocks).most<=f.life:=
 Nat.le_trans (ld_most_bound f.blocks fun k hk h1 h2=>h.all k _ hk (hE k hk) h1 h2) h.most
theorem FileOk.crashed (h:FileOk D f ls safe) (hb:f.birth<18446744073709551616) (hl:f.life<9223372036854775808) (hE: ∀ k,k<f.blocks->May D (f.first+k) (E.read ((f.first+k:Nat):Int)))
  (hS: ∀ k r,k<f.blocks->May E (f.first+k) r->r=E.read ((f.first+k:Nat):Int)):
  ∃ m,safe<=m/\m<=f.frames.length/\ ∃ life,life<=f.life+1/\Fl.load E { f with frames:=[] }={ f with life:=life,frames:=f.frames.take m }/\FileOk E { f with life:=life,frames:=f.frames.take m } (ls.take m) m:=by
 obtain⟨m,h1,h2,h3,h4,h5⟩:=h.loads hb (by omega) hE;have hm2:=h.most2 hE;refine⟨m,h1,h2,(ldRun E f.birth f.first f.blocks).most+1,by omega,?_,?_⟩
 .unfold Fl.load;simp only[List.nil_append];rw[h3,Nat.mod_eq_of_lt (by omega)]
 have hlt:(f.frames.take m).length=m:=by rw[List.length_take];omega
 have hgt: ∀ k,k<m->(ls.take m).getD k 0=ls.getD k 0:=fun k hk=>by
  rw[List.getD_eq_getElem?_getD,List.getD_eq_getElem?_getD,List.getElem?_take,if_pos hk]
 have hlast:lastL (ls.take m) m=lastL ls m:=by
  unfold lastL;split
  .rfl
  .exact hgt (m - 1) (by omega)
 have hlk: ∀ k,k<=m->lastL (ls.take m) k=lastL ls k:=fun k hk=>by
  unfold lastL;split
  .rfl
  .exact hgt (k - 1) (by omega)
 have hfit:=h.fits;have hge: ∀ k,k<m->ls.getD k 0<=(ldRun E f.birth f.first f.blocks).most:=fun k hk=>by
  have hr:=h4 k (by omega) hk;have hp:=h.small f.frames[k] (List.getElem_mem _);have hlk2:ls.getD k 0<18446744073709551616:=by have:=h.top k (by omega);omega
  have h9:=ld_most_ge (D:=E) (birth:=f.birth) (first:=f.first) (n:=f.blocks) (k:=k) (by omega) (by rw[hr]) (by rw[hr];exact frame_good hb hlk2 hp);rw[hr] at h9;rwa [frame_life hb hlk2 hp] at h9
 refine⟨by rw[List.length_take];simp only[hlt];have:=h.len;omega,by simp only[hlt];omega,fun p hp=>h.small p (List.mem_of_mem_take hp),fun k hk=>?_,fun k hk=>?_,by simp only[hlt];omega,fun k hk=>?_,fun k r hk hr hr2 hg=>?_,Nat.le_succ _,fun e=>by simp only at e;omega,fun k r hk hkb hr=>?_,fun hk r hr=>?_,fun k hk r hr=>?_⟩
 .simp only[hlt] at hk;rw[hgt k (by omega),hgt (k+1) (by omega)];exact h.sorted k (by omega)
 .simp only[hlt] at hk;rw[hgt k hk];have:=hge k hk;simp only;omega
 .simp only[hlt] at hk;simp only[hgt k hk,List.getElem_take];exact h4 k (by omega) hk
 .simp only at hr hg hk ⊢;rw[hS k r hk hr] at hr2 hg ⊢;exact ld_most_ge hk hr2 hg
 .simp only[hlt] at hk hr hkb ⊢;rw[hS k r hkb hr];by_cases e1:(E.read ((f.first+k:Nat):Int)).2=0
  .by_cases e2:goodB f.birth (E.read ((f.first+k:Nat):Int)).1=true
   .have:=ld_most_ge (n:=f.blocks) hkb e1 e2;exact .inr (.inr (by omega))
   .exact .inr (.inl (by simpa using e2))
  .exact .inl e1
 .simp only[hlt] at hk hr ⊢;rw[hlast,hS m r hk hr];exact h5 hk
 .simp only[hlt] at hk hr;simp only[hgt k hk,List.getElem_take];left
  rw[hS k r (by omega) hr];exact h4 k (by omega) hk
theorem FileOk.again (h:FileOk D f ls safe) (hb:f.birth<18446744073709551616) (hl:f.life<9223372036854775808) (hE: ∀ k,k<f.blocks->May D (f.first+k) (D.read ((f.first+k:Nat):Int))):
  ∃ life,life<=f.life+1/\Fl.load D { f with frames:=[] }={ f with life:=life }/\FileOk D { f with life:=life } ls safe:=by
 obtain⟨m,h1,h2,h3,h4,h5⟩:=h.loads hb (by omega) hE;have hm:m=f.frames.length:=by
  rcases Nat.lt_or_ge m f.frames.length with hlt | hge
  .have hfit:=h.fits;have hj:=h5 (by omega);have hn:=h.now m hlt;rw[hn] at hj;have hp:=h.small f.frames[m] (List.getElem_mem _);have hlm:ls.getD m 0<18446744073709551616:=by have:=h.top m hlt;omega
   rcases hj with hj | hj | hj
   .exact absurd rfl hj
   .simp only at hj;rw[frame_good hb hlm hp] at hj;cases hj
   .simp only at hj;rw[frame_life hb hlm hp] at hj;unfold lastL at hj;split at hj
    .omega
    .have:=h.sorted (m - 1) (by omega);rw[show m - 1+1=m by omega] at this;omega
  .omega
 subst hm;rw[List.take_length] at h3;refine⟨(ldRun D f.birth f.first f.blocks).most+1,by have:=h.most;omega,?_,?_⟩
 .unfold Fl.load;simp only[List.nil_append];rw[h3,Nat.mod_eq_of_lt (by have:=h.most;omega)]
 have hge: ∀ k,k<f.frames.length->ls.getD k 0<=(ldRun D f.birth f.first f.blocks).most:=fun k hk=>by
  have hr:=h.now k hk;have hp:=h.small f.frames[k] (List.getElem_mem _);have hlk2:ls.getD k 0<18446744073709551616:=by have:=h.top k hk;omega
  have h9:=ld_most_ge (D:=D) (birth:=f.birth) (first:=f.first) (n:=f.blocks) (k:=k) (by have:=h.fits;omega) (by rw[hr]) (by rw[hr];exact frame_good hb hlk2 hp);rw[hr] at h9;rwa [frame_life hb hlk2 hp] at h9
 refine⟨h.len,h.fits,h.small,h.sorted,fun k hk=>?_,h.safeLe,h.now,h.all,Nat.le_succ _,fun e=>by simp only at e;omega,fun k r hk hkb hr=>?_,h.gap,h.lost⟩
 .have:=hge k hk;simp only;omega
 .by_cases e1:r.2=0
  .by_cases e2:goodB f.birth r.1=true
   .have:=h.all k r hkb hr e1 e2;exact .inr (.inr (by simp only;omega))
   .exact .inr (.inl (by simpa using e2))
  .exact .inl e1
end
def Dk.wr (D:Dk) (i:Nat) (b:List UInt8):Dk:={ D.took i b with off:=false }
section
variable {D E:Dk} {f:Fl} {ls:List Nat} {safe:Nat} {i j:Nat} {b:List UInt8} {r:List UInt8 × Int}
theorem wr_len:(D.wr i b).cells.length=D.cells.length:=rfl
theorem wr_off:(D.wr i b).off=false:=rfl
theorem wr_wf (hw:WfD D) (hi:i<D.cells.length) (hb:b.length=512):WfD (D.wr i b):=⟨(took_wf hw hi hb).pend⟩
theorem wr_may (hr:May (D.wr i b) j r):May D j r\/(j=i/\(r=(b,0)\/r=([],24))):=took_may D i j b hr
theorem wr_last (j:Nat):(D.wr i b).last j=if j=i then some b else D.last j:=took_last D i j b
theorem wr_read (h0:D.off=false) (hj:j<D.cells.length):(D.wr i b).read j=if j=i then (b,0) else D.read j:=by
 by_cases e:j=i
 .rw[if_pos e];exact read_last _ j wr_off hj (by rw[wr_last,if_pos e])
 .rw[if_neg e]
  cases hl:D.last j with
  | none=>
   rw[read_cell D j h0 hj hl];exact read_cell _ j wr_off hj (by rw[wr_last,if_neg e];exact hl)
  | some c=>
   rw[read_last D j h0 hj hl];exact read_last _ j wr_off hj (by rw[wr_last,if_neg e];exact hl)
theorem ld_congr {birth first:Nat}: ∀ n,(∀ k,k<n->E.read ((first+k:Nat):Int)=D.read ((first+k:Nat):Int))->ldRun E birth first n=ldRun D birth first n
 | 0,_=>rfl
 | n+1,h=>by
  unfold ldRun;rw[h n (by omega),ld_congr n (fun k hk=>h k (by omega))]
theorem FileOk.same (h:FileOk D f ls safe) (h1: ∀ k,k<f.blocks->E.read ((f.first+k:Nat):Int)=D.read ((f.first+k:Nat):Int)) (h2: ∀ k r,k<f.blocks->May E (f.first+k) r->May D (f.first+k) r):FileOk E f ls safe:=by
 have hfit:=h.fits;have hld:=ld_congr (D:=D) (E:=E) (birth:=f.birth) (first:=f.first) f.blocks h1;exact⟨h.len,h.fits,h.small,h.sorted,h.top,h.safeLe,fun k hk=>by rw[h1 k (by omega)];exact h.now k hk,fun k r hk hr=>by rw[hld];exact h.all k r hk (h2 k r hk hr),by rw[hld];exact h.most,by rw[hld];exact h.new,
  fun k r hk hkb hr=>h.behind k r hk hkb (h2 k r hkb hr),fun hk r hr=>h.gap hk r (h2 _ r hk hr),fun k hk r hr=>h.lost k hk r (h2 k r (by omega) hr)⟩
theorem FileOk.far (h:FileOk D f ls safe) (h0:D.off=false) (hn:f.first+f.blocks<=D.cells.length) (hi:i<f.first\/f.first+f.blocks<=i):FileOk (D.wr i b) f ls safe:=
 h.same (fun k hk=>by rw[wr_read h0 (by omega),if_neg (by omega)]) (fun k r hk hr=>by
  rcases wr_may hr with h1 | ⟨h1,_⟩
  .exact h1
  .omega)
theorem FileOk.flush (h:FileOk D f ls safe) (hw:WfD D) (h0:D.off=false) (hn:f.first+f.blocks<=D.cells.length):FileOk D.flush.1 f ls f.frames.length:=by
 have hl:D.flush.1.cells.length=D.cells.length:=by rw[flush_on D h0];exact lay_len _ _
 have ho:D.flush.1.off=false:=by rw[flush_on D h0];exact h0
 have hp:D.flush.1.pend=[]:=by rw[flush_on D h0]
 have hm: ∀ k r,k<f.blocks->May D.flush.1 (f.first+k) r->r=D.read ((f.first+k:Nat):Int):=fun k r hk hr=>by
  rw[may_nil _ _ hp ho (by omega) hr,flush_read D hw h0 _ (by omega)]
 have h2:=h.same (E:=D.flush.1) (fun k hk=>flush_read D hw h0 _ (by omega)) (fun k r hk hr=>by rw[hm k r hk hr];exact may_read D _ h0 (by omega));exact⟨h2.len,h2.fits,h2.small,h2.sorted,h2.top,Nat.le_refl _,h2.now,h2.all,h2.most,h2.new,h2.behind,h2.gap,fun k hk r hr=>by
  have:=h.fits;left
  rw[hm k r (by omega) hr];exact h.now k hk⟩
theorem getD_snoc {ls:List Nat} {x k:Nat} (h:k<ls.length):(ls++[x]).getD k 0=ls.getD k 0:=by
 rw[List.getD_eq_getElem?_getD,List.getD_eq_getElem?_getD,List.getElem?_append_left h]
theorem getD_end {ls:List Nat} {x:Nat}:(ls++[x]).getD ls.length 0=x:=by
 rw[List.getD_eq_getElem?_getD,List.getElem?_append_right (Nat.le_refl _),Nat.sub_self];rfl
theorem FileOk.append (h:FileOk D f ls safe) (h0:D.off=false) (hn:f.first+f.blocks<=D.cells.length) (hb:f.birth<18446744073709551616) (hl:f.life<9223372036854775808) {p:List UInt8} (hp:p.length<=480) (hlt:f.frames.length<f.blocks):
  FileOk (D.wr (f.first+f.frames.length) (frameB f.birth f.life p)) { f with frames:=f.frames++[p] } (ls++[f.life]) safe:=by
 have hlen:=h.len;have hl2:f.life<18446744073709551616:=by omega
 obtain⟨i,hi⟩: ∃ i,i=f.first+f.frames.length:=⟨_,rfl⟩;obtain⟨b,hbb⟩: ∃ b,b=frameB f.birth f.life p:=⟨_,rfl⟩;have g1:=frame_good hb hl2 hp;have g2:=frame_life hb hl2 hp;rw[<-hbb] at g1 g2;rw[<-hi, <-hbb];have hfl:(f.frames++[p]).length=f.frames.length+1:=by rw[List.length_append];rfl
 have hrd: ∀ k,k<f.blocks->(D.wr i b).read ((f.first+k:Nat):Int)=if k=f.frames.length then (b,0) else D.read ((f.first+k:Nat):Int):=fun k hk=>by
  rw[wr_read h0 (by omega)];by_cases e:k=f.frames.length
  .rw[if_pos e,if_pos (by omega)]
  .rw[if_neg e,if_neg (by omega)]
 have hmy: ∀ k r,k<f.blocks->May (D.wr i b) (f.first+k) r->May D (f.first+k) r\/(k=f.frames.length/\(r=(b,0)\/r=([],24))):=fun k r hk hr=>by
  rcases wr_may hr with h1 | ⟨h1,h2⟩
  .exact .inl h1
  .exact .inr ⟨by omega,h2⟩
 have hbig:f.life<=(ldRun (D.wr i b) f.birth f.first f.blocks).most:=by
  have h9:=ld_most_ge (D:=D.wr i b) (birth:=f.birth) (first:=f.first) (n:=f.blocks) (k:=f.frames.length) hlt (by rw[hrd _ hlt,if_pos rfl]) (by rw[hrd _ hlt,if_pos rfl];exact g1);rw[hrd _ hlt,if_pos rfl] at h9;rwa [g2] at h9
 have hsm:(ldRun (D.wr i b) f.birth f.first f.blocks).most<=f.life:=ld_most_bound f.blocks fun k hk e1 e2=>by
  rw[hrd k hk] at e1 e2 ⊢;by_cases e:k=f.frames.length
  .rw[if_pos e,g2];exact Nat.le_refl _
  .rw[if_neg e] at e1 e2 ⊢;exact Nat.le_trans (h.all k _ hk (may_read D _ h0 (by omega)) e1 e2) h.most
 have hm:=h.most;have hlk: ∀ k,k<=f.frames.length->lastL (ls++[f.life]) k=lastL ls k:=fun k hk=>by
  unfold lastL;split
  .rfl
  .exact getD_snoc (by omega)
 have hll:lastL (ls++[f.life]) (f.frames.length+1)=f.life:=by
  unfold lastL;rw[if_neg (by omega),Nat.add_sub_cancel, <-hlen];exact getD_end
 refine⟨by rw[List.length_append,hlen,hfl];rfl,by rw[hfl];exact hlt,fun q hq=>?_,fun k hk=>?_,fun k hk=>?_,by rw[hfl];have:=h.safeLe;omega,fun k hk=>?_,fun k r hk hr e1 e2=>?_,hsm,fun _=>⟨by rw[hfl];omega,by rw[hfl];exact hll⟩,fun k r hk hkb hr=>?_,fun hk r hr=>?_,fun k hk r hr=>?_⟩
 .rcases List.mem_append.1 hq with hq | hq
  .exact h.small q hq
  .rw[List.mem_singleton] at hq;subst hq;exact hp
 .rw[hfl] at hk;rw[getD_snoc (by omega)];by_cases e:k+1=f.frames.length
  .have:(ls++[f.life]).getD (k+1) 0=f.life:=by rw[e, <-hlen];exact getD_end
   rw[this];exact h.top k (by omega)
  .rw[getD_snoc (by omega)];exact h.sorted k (by omega)
 .rw[hfl] at hk;by_cases e:k=f.frames.length
  .have:(ls++[f.life]).getD k 0=f.life:=by rw[e, <-hlen];exact getD_end
   rw[this];exact Nat.le_refl _
  .rw[getD_snoc (by omega)];exact h.top k (by omega)
 .rw[hfl] at hk;show (D.wr i b).read ((f.first+k:Nat):Int)=_;rw[hrd k (by omega)];by_cases e:k=f.frames.length
  .have e2:(ls++[f.life]).getD k 0=f.life:=by rw[e, <-hlen];exact getD_end
   rw[if_pos e,e2];have e3:(f.frames++[p])[k]'(by rw[hfl];omega)=p:=by simp[e]
   simp only[e3,hbb]
  .rw[if_neg e,getD_snoc (by omega)];have e3:(f.frames++[p])[k]'(by rw[hfl];omega)=f.frames[k]'(by omega):=List.getElem_append_left (by omega);simp only[e3];exact h.now k (by omega)
 .rcases hmy k r hk hr with h1 | ⟨_,h2 | h2⟩
  .have:=h.all k r hk h1 e1 e2;show lifeB r.1<=(ldRun (D.wr i b) f.birth f.first f.blocks).most;omega
  .rw[h2];show lifeB b<=(ldRun (D.wr i b) f.birth f.first f.blocks).most;rw[g2];exact hbig
  .rw[h2] at e1;cases e1
 .rw[hfl] at hk;rcases hmy k r hkb hr with h1 | ⟨h1,_⟩
  .exact h.behind k r (by omega) hkb h1
  .omega
 .rw[hfl] at hk hr ⊢;rw[hll];rcases hmy _ r hk hr with h1 | ⟨h1,_⟩
  .exact h.behind _ r (by omega) hk h1
  .omega
 .rw[hfl] at hk;rw[hlk k (by omega)];by_cases e:k=f.frames.length
  .have e2:(ls++[f.life]).getD k 0=f.life:=by rw[e, <-hlen];exact getD_end
   have e3:(f.frames++[p])[k]'(by rw[hfl];omega)=p:=by simp[e]
   simp only[e2,e3];rcases hmy k r (by omega) hr with h1 | ⟨_,h2 | h2⟩
   .subst e;exact .inr ⟨h.safeLe,h.gap hlt r h1⟩
   .left;rw[h2,hbb]
   .right
    refine⟨by have:=h.safeLe;omega,.inl ?_⟩;rw[h2];decide
  .rw[getD_snoc (by omega)];have e3:(f.frames++[p])[k]'(by rw[hfl];omega)=f.frames[k]'(by omega):=List.getElem_append_left (by omega);simp only[e3];rcases hmy k r (by omega) hr with h1 | ⟨h1,_⟩
   .exact h.lost k (by omega) r h1
   .omega
theorem FileOk.fresh {num first blocks turn:Nat} (h: ∀ k r,k<blocks->May D (first+k) r->r.2=0->getN (r.1.take 8)<turn) (h0:D.off=false) (hn:first+blocks<=D.cells.length):FileOk D ⟨num,first,blocks,turn,1,[]⟩ [] 0:=by
 have hg: ∀ k r,k<blocks->May D (first+k) r->r.2=0->goodB turn r.1=false:=fun k r hk hr e=>by
  have:=h k r hk hr e;unfold goodB;exact decide_eq_false (by rintro ⟨h1,_⟩;omega)
 have hm:(ldRun D turn first blocks).most<=0:=ld_most_bound blocks fun k hk e1 e2=>by
  rw[hg k _ hk (may_read D _ h0 (by omega)) e1] at e2;cases e2
 have hj: ∀ k r x,k<blocks->May D (first+k) r->Junk turn x r:=fun k r x hk hr=>by
  by_cases e:r.2=0
  .exact .inr (.inl (hg k r hk hr e))
  .exact .inl e
 have no: ∀ k,¬ k<([]:List (List UInt8)).length:=fun k hk=>by simp at hk
 refine⟨rfl,Nat.zero_le _,by simp,fun k hk=>absurd hk (no _),fun k hk=>absurd hk (no k),Nat.zero_le _,fun k hk=>absurd hk (no k),fun k r hk hr e1 e2=>?_,?_,fun e=>?_,fun k r _ hk hr=>hj k r _ hk hr,fun hk r hr=>hj 0 r _ hk hr,fun k hk=>absurd hk (no k)⟩
 .have h9:goodB turn r.1=true:=e2;rw[hg k r hk hr e1] at h9
  cases h9
 .show (ldRun D turn first blocks).most<=1;omega
 .have h9:(ldRun D turn first blocks).most=1:=e;omega
end
end Go.Proofs.YtmbaiglpgaoogaaGreat
