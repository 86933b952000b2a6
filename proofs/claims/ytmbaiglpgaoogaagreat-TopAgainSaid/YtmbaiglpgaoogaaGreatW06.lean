/- Joined, as they were built one by one: Blk6 ExtD ExtB ExtL ExtG ExtS ExtW. -/
import Derived.Deep.CutBlock
import Derived.Test.YtmbaiglpgaoogaaGreatW04
set_option linter.unusedVariables false
set_option maxRecDepth 100000
namespace Go.Proofs.YtmbaiglpgaoogaaGreat
open Go.RowKit Z
def JY (torn bytes:Int) (i:Nat):Bool:=decide ((i:Int)=torn/\1<=bytes/\bytes<512)
def J8 (keep:List Bool) (i:Nat):Bool:=keep[i]?.getD false
def nq (keep:List Bool) (torn bytes:Int) (cells:List (List UInt8 × Bool)) (x:(Nat × List UInt8) × Nat):List (List UInt8 × Bool):=
 if JY torn bytes x.2 then cells.set x.1.1 ([],true) else if J8 keep x.2 then lay cells x.1 else cells
def Ik (keep:List Bool) (torn bytes:Int) (cells:List (List UInt8 × Bool)) (ps:List (Nat × List UInt8)):List (List UInt8 × Bool):=ps.zipIdx.foldl (nq keep torn bytes) cells
def Dk.on (D:Dk) (keep:List Bool) (torn bytes:Int):Dk:=if D.off then ⟨Ik keep torn bytes D.cells D.pend,[],0,D.writes,false⟩ else D
def D8 (x:List UInt8 × Bool):List UInt8 × Int:=if x.2 then ([],24) else if x.1=[] then (List.replicate 512 0,0) else (x.1,0)
structure yu (D:Dk):Prop where
 pend: ∀ x ∈ D.pend,x.1<D.cells.length/\x.2.length=512
def jl (D:Dk) (i:Nat) (r:List UInt8 × Int):Prop:=(∃ x,D.cells[i]?=some x/\r=D8 x)\/ ∃ b,(i,b) ∈ D.pend/\(r=(b,0)\/r=([],24))
theorem zy (D:Dk) (i:Nat) (h:D.off=false) (hi:i<D.cells.length):D.ask i=0:=by
 unfold Dk.ask;rw[h,if_neg (by simp),if_pos (by omega)]
theorem ji (D:Dk) (i:Nat) (h:D.off=false) (hi:i<D.cells.length) {b:List UInt8} (hb:D.last i=some b):D.read i=(b,0):=by
 unfold Dk.read;rw[if_pos (zy D i h hi),hb]
theorem eX (D:Dk) (i:Nat) (h:D.off=false) (hi:i<D.cells.length) (hb:D.last i=none):D.read i=D8 D.cells[i]:=by
 unfold Dk.read;rw[if_pos (zy D i h hi),hb,Int.toNat_natCast,List.getElem?_eq_getElem hi];rfl
theorem vY (D:Dk) (i:Nat) {b:List UInt8} (hb:D.last i=some b):(i,b) ∈ D.pend:=by
 unfold Dk.last at hb;obtain⟨x,h1,h2⟩:=Option.map_eq_some_iff.1 hb;have h3:=List.mem_reverse.1 (List.mem_of_find?_eq_some h1);have h4:=List.find?_some h1;have h5:x.1=i:=by
  have:((x.1:Nat):Int)=(i:Int):=by simpa using h4
  omega
 obtain⟨a,c⟩:=x;simp only at h2 h5;subst h2;subst h5;exact h3
theorem fA (D:Dk) (i:Nat) (h:D.off=false) (hi:i<D.cells.length):jl D i (D.read i):=by
 cases hb:D.last i with
 | none=>rw[eX D i h hi hb];exact .inl ⟨_,List.getElem?_eq_getElem hi,rfl⟩
 | some b=>rw[ji D i h hi hb];exact .inr ⟨b,vY D i hb,.inl rfl⟩
theorem qM (D:Dk) (h:D.pend=[]) (i:Int):D.last i=none:=by unfold Dk.last;rw[h];rfl
theorem ua (D:Dk) (i:Nat) (hp:D.pend=[]) (h:D.off=false) (hi:i<D.cells.length) {r:List UInt8 × Int} (hr:jl D i r):r=D.read i:=by
 rcases hr with ⟨x,h1,h2⟩ | ⟨b,h1,_⟩
 .rw[eX D i h hi (qM D hp i),h2];rw[List.getElem?_eq_getElem hi] at h1;injection h1 with h1
  rw[h1]
 .rw[hp] at h1;cases h1
theorem Dt (D:Dk) (i:Int) (h:D.off=true):D.read i=([],21):=by
 have:D.ask i=21:=by unfold Dk.ask;rw[h];rfl
 unfold Dk.read;rw[this];rfl
theorem lS (D:Dk) (i:Nat) (b:List UInt8) (h:D.off=false) (hi:i<D.cells.length) (hb:b.length=512):D.write i b=(D.dC i b,if D.armed=1 then 21 else 0):=by
 unfold Dk.write;rw[if_pos (zy D i h hi),if_pos hb,Int.toNat_natCast]
theorem Bk (D:Dk) (i j:Nat) (b:List UInt8):(D.dC i b).last j=if j=i then some b else D.last j:=by
 unfold Dk.last Dk.dC;simp only[List.reverse_append,List.reverse_cons,List.reverse_nil,List.nil_append,List.singleton_append,List.find?_cons];by_cases h:j=i
 .subst h;simp
 .have h2:(((i:Nat):Int)==(j:Int))=false:=by simp;omega
  rw[h2,if_neg h]
theorem FT (D:Dk) (i j:Nat) (b:List UInt8) {r:List UInt8 × Int} (hr:jl (D.dC i b) j r):jl D j r\/(j=i/\(r=(b,0)\/r=([],24))):=by
 rcases hr with ⟨x,h1,h2⟩ | ⟨c,h1,h2⟩
 .exact .inl (.inl ⟨x,h1,h2⟩)
 .rcases List.mem_append.1 h1 with h3 | h3
  .exact .inl (.inr ⟨c,h3,h2⟩)
  .rw[List.mem_singleton] at h3;injection h3 with h4 h5
   subst h5;exact .inr ⟨h4,h2⟩
theorem H7 {D:Dk} (hw:yu D) {i:Nat} {b:List UInt8} (hi:i<D.cells.length) (hb:b.length=512):yu (D.dC i b):=
 ⟨fun x hx=>by
  rcases List.mem_append.1 hx with h | h
  .exact hw.pend x h
  .rw[List.mem_singleton] at h;subst h;exact⟨hi,hb⟩⟩
theorem oY (ps:List (Nat × List UInt8)): ∀ cells:List (List UInt8 × Bool),(ps.foldl lay cells).length=cells.length:=by
 induction ps with
 | nil=>intro _;rfl
 | cons p ps ih=>intro cells;rw[List.foldl_cons,ih];unfold lay;rw[List.length_set]
theorem Al: ∀ (ps:List (Nat × List UInt8)) (cells:List (List UInt8 × Bool)) (i:Nat) (hi:i<cells.length),
 (ps.foldl lay cells)[i]?=match (ps.reverse.find? fun x=>((x.1:Nat):Int)==(i:Int)) with | some x=>some (x.2,false) | none=>cells[i]?
 | [],cells,i,hi=>rfl
 | p::ps,cells,i,hi=>by
  rw[List.foldl_cons,Al ps (lay cells p) i (by unfold lay;rw[List.length_set];exact hi),List.reverse_cons,List.find?_append]
  cases hf:(ps.reverse.find? fun x=>((x.1:Nat):Int)==(i:Int)) with
  | some x=>rfl
  | none=>
   simp only[Option.none_or,List.find?_cons,List.find?_nil];unfold lay;by_cases e:p.1=i
   .subst e;simp[hi]
   .have h2:(((p.1:Nat):Int)==(i:Int))=false:=by simp;omega
    rw[h2,List.getElem?_set_ne e]
theorem dg (D:Dk) (h:D.off=false):D.flush=({ D with cells:=D.pend.foldl lay D.cells,pend:=[] },0):=by unfold Dk.flush;rw[h];rfl
theorem gL (D:Dk) (hw:yu D) (h:D.off=false) (i:Nat) (hi:i<D.cells.length):(D.flush.1).read i=D.read i:=by
 rw[dg D h];have hl:=oY D.pend D.cells;have h2:=eX ({ D with cells:=D.pend.foldl lay D.cells,pend:=[] }:Dk) i h (by simp only[hl];exact hi) (qM _ rfl i);rw[h2];have h3:=Al D.pend D.cells i hi;have h4:(D.pend.foldl lay D.cells)[i]?=some ((D.pend.foldl lay D.cells)[i]'(by rw[hl];exact hi)):=List.getElem?_eq_getElem _;rw[h4] at h3
 cases hb:D.last i with
 | none=>
  rw[eX D i h hi hb];unfold Dk.last at hb;rw[Option.map_eq_none_iff] at hb;rw[hb] at h3;simp only[List.getElem?_eq_getElem hi] at h3;injection h3 with h3
  rw[<-h3]
 | some b=>
  rw[ji D i h hi hb];have hm:=(hw.pend _ (vY D i hb)).2;unfold Dk.last at hb;obtain⟨x,h5,h6⟩:=Option.map_eq_some_iff.1 hb;rw[h5] at h3;simp only at h3;injection h3 with h3
  show D8 ((D.pend.foldl lay D.cells)[i]'_)=_;rw[h3,h6];unfold D8;simp only[Bool.false_eq_true,if_false];rw[if_neg (by intro e;simp only at hm;rw[e] at hm;simp at hm)]
theorem zi (keep:List Bool) (torn bytes:Int) (cells:List (List UInt8 × Bool)) (x:(Nat × List UInt8) × Nat):(nq keep torn bytes cells x).length=cells.length:=by
 unfold nq lay;split
 .rw[List.length_set]
 .split
  .rw[List.length_set]
  .rfl
theorem rL (keep:List Bool) (torn bytes:Int): ∀ (xs:List ((Nat × List UInt8) × Nat)) (cells:List (List UInt8 × Bool)) (i:Nat) (x:List UInt8 × Bool),(xs.foldl (nq keep torn bytes) cells)[i]?=some x->
 cells[i]?=some x\/ ∃ b k,((i,b),k) ∈ xs/\(x=(b,false)\/x=([],true))
 | [],cells,i,x,h=> .inl h
 | p::ps,cells,i,x,h=>by
  rw[List.foldl_cons] at h;rcases rL keep torn bytes ps _ i x h with h1 | ⟨b,k,h1,h2⟩
  .unfold nq lay at h1;split at h1
   .by_cases e:p.1.1=i
    .subst e;rw[List.getElem?_set] at h1;split at h1
     .split at h1
      .injection h1 with h1
       exact .inr ⟨p.1.2,p.2,by simp,.inr h1.symm⟩
      .cases h1
     .exact .inl h1
    .rw[List.getElem?_set_ne e] at h1;exact .inl h1
   .split at h1
    .by_cases e:p.1.1=i
     .subst e;rw[List.getElem?_set] at h1;split at h1
      .split at h1
       .injection h1 with h1
        exact .inr ⟨p.1.2,p.2,by simp,.inl h1.symm⟩
       .cases h1
      .exact .inl h1
     .rw[List.getElem?_set_ne e] at h1;exact .inl h1
    .exact .inl h1
  .exact .inr ⟨b,k,List.mem_cons_of_mem _ h1,h2⟩
theorem tf (keep:List Bool) (torn bytes:Int): ∀ (xs:List ((Nat × List UInt8) × Nat)) (cells:List (List UInt8 × Bool)),(xs.foldl (nq keep torn bytes) cells).length=cells.length
 | [],cells=>rfl
 | p::ps,cells=>by rw[List.foldl_cons,tf keep torn bytes ps,zi]
def Dk.bZ (D:Dk) (keep:List Bool) (torn bytes:Int):Dk:=({ D with off:=true }:Dk).on keep torn bytes
section
variable {D:Dk} {keep:List Bool} {torn bytes:Int}
theorem FJ:D.bZ keep torn bytes=⟨Ik keep torn bytes D.cells D.pend,[],0,D.writes,false⟩:=rfl
theorem ew:(D.bZ keep torn bytes).cells.length=D.cells.length:=by rw[FJ];exact tf keep torn bytes _ _
theorem lR:(D.bZ keep torn bytes).pend=[]:=rfl
theorem nt:(D.bZ keep torn bytes).off=false:=rfl
theorem FH:yu (D.bZ keep torn bytes):=⟨fun x hx=>by rw[lR] at hx;cases hx⟩
theorem CD (hw:yu D) (i:Nat) (hi:i<D.cells.length):jl D i ((D.bZ keep torn bytes).read i):=by
 have hl:i<(D.bZ keep torn bytes).cells.length:=by rw[ew];exact hi
 rw[eX _ i nt hl (qM _ lR i)];have h1:(D.bZ keep torn bytes).cells[i]?=some ((D.bZ keep torn bytes).cells[i]'hl):=List.getElem?_eq_getElem hl;obtain⟨x,hx⟩: ∃ x,x=(D.bZ keep torn bytes).cells[i]'hl:=⟨_,rfl⟩;rw[<-hx] at h1 ⊢;rcases rL keep torn bytes D.pend.zipIdx D.cells i x h1 with h2 | ⟨b,k,h2,h3⟩
 .exact .inl ⟨x,h2,rfl⟩
 .have hm:(i,b) ∈ D.pend:=List.mem_of_getElem? (List.mem_zipIdx_iff_getElem?.1 h2);refine .inr ⟨b,hm,?_⟩;rcases h3 with rfl | rfl
  .left
   have:=(hw.pend _ hm).2;unfold D8;simp only[Bool.false_eq_true,if_false];rw[if_neg (by intro e;simp only at this;rw[e] at this;simp at this)]
  .right;rfl
end
theorem vM {l:List UInt8} (h:l.length<=512):(xC l).length=512:=by unfold xC;rw[List.length_append,List.length_replicate];omega
theorem Bb (h:Hd):(Ej h).length=20:=by unfold Ej;simp only[List.length_append,aw]
theorem nf: ∀ hs:List Hd,(hs.map Ej).flatten.length=20*hs.length
 | []=>rfl
 | h::hs=>by rw[List.map_cons,List.flatten_cons,List.length_append,Bb,nf hs,List.length_cons];omega
theorem CW (turn:Nat) (hs:List Hd):(nW turn hs).length=13+20*hs.length:=by
 unfold nW;simp only[List.length_append,aw,nf];show 4+_=_;omega
theorem fk {turn:Nat} {hs:List Hd} (h:hs.length<=24):(bN turn hs).length=512:=vM (by rw[CW];omega)
theorem nr {birth life:Nat} {p:List UInt8} (h:p.length<=480):(bB birth life p).length=512:=vM (by simp only[List.length_append,aw];omega)
def oK (h:Hd):Prop:=h.num<4294967296/\h.first<4294967296/\h.blocks<4294967296/\h.birth<18446744073709551616
theorem GK {x:Nat} (h:x<4294967296):bu (ai x 4)=x:=by rw[jN];exact Nat.mod_eq_of_lt h
theorem Gc {x:Nat} (h:x<18446744073709551616):bu (ai x 8)=x:=by rw[jN];exact Nat.mod_eq_of_lt h
theorem Jb {x:Nat} (h:x<65536):bu (ai x 2)=x:=by rw[jN];exact Nat.mod_eq_of_lt h
theorem DB {h:Hd} (ho:oK h) (r:List UInt8):qL (Ej h++r)=h:=by
 obtain⟨n,f,b,i⟩:=h;obtain⟨h1,h2,h3,h4⟩:=ho;unfold qL Ej;have l1:=aw n 4;have l2:=aw f 4;have l3:=aw b 4;have l4:=aw i 8;simp only[List.append_assoc];have e4:(ai n 4++(ai f 4++(ai b 4++(ai i 8++r)))).drop 4=ai f 4++(ai b 4++(ai i 8++r)):=List.drop_left' l1;have e8:(ai n 4++(ai f 4++(ai b 4++(ai i 8++r)))).drop 8=ai b 4++(ai i 8++r):=by
  rw[show (8:Nat)=4+4 from rfl, <-List.drop_drop,e4];exact List.drop_left' l2
 have e12:(ai n 4++(ai f 4++(ai b 4++(ai i 8++r)))).drop 12=ai i 8++r:=by
  rw[show (12:Nat)=8+4 from rfl, <-List.drop_drop,e8];exact List.drop_left' l3
 rw[e4,e8,e12,List.take_left' l1,List.take_left' l2,List.take_left' l3,List.take_left' l4,GK h1,GK h2,GK h3,Gc h4]
theorem qp: ∀ (hs:List Hd) (r:List UInt8),(∀ h ∈ hs,oK h)->eU hs.length ((hs.map Ej).flatten++r)=hs
 | [],r,_=>rfl
 | h::hs,r,ho=>by
  rw[List.map_cons,List.flatten_cons,List.append_assoc,List.length_cons];unfold eU;rw[DB (ho h (by simp)),List.drop_left' (Bb h),qp hs r (fun x hx=>ho x (List.mem_cons_of_mem _ hx))]
theorem KS {n:Nat} (h:n<256):ai n 1=[UInt8.ofNat n]:=by
 show [jE n 1 0]=_;unfold jE;simp only[Nat.sub_self,Nat.pow_zero,Nat.div_one,Nat.mod_eq_of_lt h]
theorem kE {turn:Nat} {hs:List Hd} (ht:turn<18446744073709551616) (hn:hs.length<=24) (ho: ∀ h ∈ hs,oK h):cY (bN turn hs)=some (turn,hs):=by
 obtain⟨z,hz⟩: ∃ z,z=List.replicate (512 - (nW turn hs).length) (0:UInt8):=⟨_,rfl⟩;obtain⟨R,hR⟩: ∃ R,R=(hs.map Ej).flatten:=⟨_,rfl⟩;have e:bN turn hs=lM++(ai turn 8++(UInt8.ofNat hs.length::(R++z))):=by
  unfold bN xC;rw[<-hz];unfold nW;rw[KS (by omega), <-hR];simp only[List.append_assoc,List.cons_append,List.nil_append]
 have l8:=aw turn 8;have d4:(bN turn hs).drop 4=ai turn 8++(UInt8.ofNat hs.length::(R++z)):=by rw[e];rfl
 have d12:(bN turn hs).drop 12=UInt8.ofNat hs.length::(R++z):=by
  rw[show (12:Nat)=4+8 from rfl, <-List.drop_drop,d4];exact List.drop_left' l8
 have d13:(bN turn hs).drop 13=R++z:=by rw[show (13:Nat)=12+1 from rfl, <-List.drop_drop,d12];rfl
 have g12:(bN turn hs).getD 12 0=UInt8.ofNat hs.length:=by
  have h9:(bN turn hs)[12]?=((bN turn hs).drop 12)[0]?:=by rw[List.getElem?_drop]
  rw[List.getD_eq_getElem?_getD,h9,d12];rfl
 have gn:((bN turn hs).getD 12 0).toNat=hs.length:=by rw[g12,UInt8.toNat_ofNat',Nat.mod_eq_of_lt (by omega)]
 unfold cY;rw[gn,d4,d13,List.take_left' l8,Gc ht,hR,qp hs z ho,if_pos ⟨by rw[e];rfl,hn⟩]
theorem fJ {birth life:Nat} {p:List UInt8} (hb:birth<18446744073709551616) (hl:life<18446744073709551616) (hp:p.length<=480):
 (bB birth life p).take 8=ai birth 8/\((bB birth life p).drop 8).take 8=ai life 8/\((bB birth life p).drop 16).take 2=ai p.length 2/\((bB birth life p).drop 18).take p.length=p:=by
 obtain⟨z,hz⟩: ∃ z,z=List.replicate (512 - (ai birth 8++(ai life 8++(ai p.length 2++p))).length) (0:UInt8):=⟨_,rfl⟩;have e:bB birth life p=ai birth 8++(ai life 8++(ai p.length 2++(p++z))):=by
  unfold bB xC;rw[<-hz];simp only[List.append_assoc]
 have l1:=aw birth 8;have l2:=aw life 8;have l3:=aw p.length 2;have d8:(bB birth life p).drop 8=ai life 8++(ai p.length 2++(p++z)):=by rw[e];exact List.drop_left' l1
 have d16:(bB birth life p).drop 16=ai p.length 2++(p++z):=by rw[show (16:Nat)=8+8 from rfl, <-List.drop_drop,d8];exact List.drop_left' l2
 have d18:(bB birth life p).drop 18=p++z:=by rw[show (18:Nat)=16+2 from rfl, <-List.drop_drop,d16];exact List.drop_left' l3
 exact⟨by rw[e];exact List.take_left' l1,by rw[d8];exact List.take_left' l2,by rw[d16];exact List.take_left' l3,by rw[d18];exact List.take_left' rfl⟩
section
variable {birth life:Nat} {p:List UInt8} (hb:birth<18446744073709551616) (hl:life<18446744073709551616) (hp:p.length<=480)
include hb hl hp
theorem oe:bu ((bB birth life p).take 8)=birth:=by rw[(fJ hb hl hp).1,Gc hb]
theorem gU:eW birth (bB birth life p)=true:=by
 unfold eW;rw[oe hb hl hp,(fJ hb hl hp).2.2.1,Jb (by omega)];exact decide_eq_true ⟨rfl,hp⟩
theorem gK:fS (bB birth life p)=life:=by unfold fS;rw[(fJ hb hl hp).2.1,Gc hl]
theorem xY:ib (bB birth life p)=p:=by unfold ib;rw[(fJ hb hl hp).2.2.1,Jb (by omega)];exact(fJ hb hl hp).2.2.2
end
def zt (birth last:Nat) (r:List UInt8 × Int):Prop:=r.2≠0\/eW birth r.1=false\/fS r.1<last
def dQ (ls:List Nat) (m:Nat):Nat:=if m=0 then 0 else ls.getD (m - 1) 0
section
variable {D:Dk} {birth first:Nat}
theorem fW (k:Nat):aV D birth first (k+1)=en birth (D.read ((first+k:Nat):Int)) (aV D birth first k):=rfl
theorem Hq (k:Nat) (h:(aV D birth first k).over=true):(aV D birth first (k+1)).over=true/\(aV D birth first (k+1)).aa=(aV D birth first k).aa:=by
 rw[fW];unfold en;split
 .exact⟨rfl,rfl⟩
 .split
  .exact⟨rfl,rfl⟩
  .rw[if_pos (.inl h)];exact⟨rfl,rfl⟩
theorem vI (k:Nat) (h:(aV D birth first k).over=true): ∀ j,(aV D birth first (k+j)).over=true/\(aV D birth first (k+j)).aa=(aV D birth first k).aa
 | 0=>⟨h,rfl⟩
 | j+1=>by
  obtain⟨h1,h2⟩:=vI k h j;obtain⟨h3,h4⟩:=Hq (k+j) h1;exact⟨h3,h4.trans h2⟩
theorem tZ (k:Nat):(aV D birth first k).aG<=(aV D birth first (k+1)).aG:=by
 rw[fW];unfold en;split
 .exact Nat.le_refl _
 .split
  .exact Nat.le_refl _
  .split
   .exact Nat.le_max_left _ _
   .exact Nat.le_max_left _ _
theorem pQ (a:Nat): ∀ j,(aV D birth first a).aG<=(aV D birth first (a+j)).aG
 | 0=>Nat.le_refl _
 | j+1=>Nat.le_trans (pQ a j) (tZ (a+j))
theorem gB {n k:Nat} (hk:k<n) (h1:(D.read ((first+k:Nat):Int)).2=0) (h2:eW birth (D.read ((first+k:Nat):Int)).1=true):fS (D.read ((first+k:Nat):Int)).1<=(aV D birth first n).aG:=by
 have h3:fS (D.read ((first+k:Nat):Int)).1<=(aV D birth first (k+1)).aG:=by
  rw[fW];unfold en;rw[if_neg (by rw[h1];simp),if_neg (by rw[h2];simp)];split
  .exact Nat.le_max_right _ _
  .exact Nat.le_max_right _ _
 have h4:=pQ (D:=D) (birth:=birth) (first:=first) (k+1) (n - (k+1));rw[show k+1+(n - (k+1))=n by omega] at h4;omega
theorem fy {B:Nat}: ∀ n,(∀ k,k<n->(D.read ((first+k:Nat):Int)).2=0->eW birth (D.read ((first+k:Nat):Int)).1=true->fS (D.read ((first+k:Nat):Int)).1<=B)->(aV D birth first n).aG<=B
 | 0,_=>Nat.zero_le _
 | n+1,h=>by
  have ih:=fy n (fun k hk=>h k (by omega));have hn:=h n (by omega);rw[fW];unfold en;split
  .exact ih
  .rename_i h1;split
   .exact ih
   .rename_i h2;have h3:=hn (by simpa using h1) (by simpa using h2);split
    .exact Nat.max_le.2 ⟨ih,h3⟩
    .exact Nat.max_le.2 ⟨ih,h3⟩
theorem zF {fr:List (List UInt8)} {ls:List Nat} (hb:birth<18446744073709551616) (hs: ∀ p ∈ fr,p.length<=480) (hl: ∀ k,k<fr.length->ls.getD k 0<18446744073709551616) (hso: ∀ k,k+1<fr.length->ls.getD k 0<=ls.getD (k+1) 0):
 ∀ m,m<=fr.length->(∀ k (h:k<fr.length),k<m->D.read ((first+k:Nat):Int)=(bB birth (ls.getD k 0) fr[k],0))->
 (aV D birth first m).over=false/\(aV D birth first m).last=dQ ls m/\(aV D birth first m).aa=fr.take m
 | 0,_,_=>⟨rfl,rfl,rfl⟩
 | m+1,hm,h=>by
  obtain⟨i1,i2,i3⟩:=zF hb hs hl hso m (by omega) (fun k hk hkm=>h k hk (by omega));have hr:=h m (by omega) (by omega);have hp:=hs fr[m] (List.getElem_mem _);have hlm:=hl m (by omega);have g1:=gU hb hlm hp;have g2:=gK hb hlm hp;have g3:=xY hb hlm hp;have hle:dQ ls m<=ls.getD m 0:=by
   unfold dQ;split
   .exact Nat.zero_le _
   .have:=hso (m - 1) (by omega);rwa [show m - 1+1=m by omega] at this
  rw[fW];unfold en;rw[hr];dsimp only;rw[if_neg (by simp),if_neg (by rw[g1];simp),if_neg (by rw[i1,i2,g2];rintro (h5 | h5);cases h5;omega)];refine⟨rfl,?_,?_⟩
  .show fS _=_;rw[g2];unfold dQ;rw[if_neg (by omega)];rfl
  .show _++[ib _]=_;rw[i3,g3,List.take_succ_eq_append_getElem (by omega)]
theorem Hy {ls:List Nat} {m:Nat} (h1:(aV D birth first m).last=dQ ls m) (hj:zt birth (dQ ls m) (D.read ((first+m:Nat):Int))):
 (aV D birth first (m+1)).over=true/\(aV D birth first (m+1)).aa=(aV D birth first m).aa:=by
 rw[fW];unfold en;by_cases e1:(D.read ((first+m:Nat):Int)).2=0
 .rw[if_neg (by rw[e1];simp)];by_cases e2:eW birth (D.read ((first+m:Nat):Int)).1=true
  .rw[if_neg (by rw[e2];simp),if_pos]
   .exact⟨rfl,rfl⟩
   .right
    rw[h1];rcases hj with h | h | h
    .exact absurd e1 h
    .rw[h] at e2;cases e2
    .exact h
  .rw[if_pos (by simpa using e2)];exact⟨rfl,rfl⟩
 .rw[if_pos e1];exact⟨rfl,rfl⟩
end
structure bW (D:Dk) (f:Fl) (ls:List Nat) (safe:Nat):Prop where
 len:ls.length=f.aa.length
 fits:f.aa.length<=f.blocks
 small: ∀ p ∈ f.aa,p.length<=480
 sorted: ∀ k,k+1<f.aa.length->ls.getD k 0<=ls.getD (k+1) 0
 top: ∀ k,k<f.aa.length->ls.getD k 0<=f.life
 safeLe:safe<=f.aa.length
 now: ∀ k (h:k<f.aa.length),D.read ((f.first+k:Nat):Int)=(bB f.birth (ls.getD k 0) f.aa[k],0)
 all: ∀ k r,k<f.blocks->jl D (f.first+k) r->r.2=0->eW f.birth r.1=true->fS r.1<=(aV D f.birth f.first f.blocks).aG
 aG:(aV D f.birth f.first f.blocks).aG<=f.life
 new:(aV D f.birth f.first f.blocks).aG=f.life->0<f.aa.length/\dQ ls f.aa.length=f.life
 behind: ∀ k r,f.aa.length<=k->k<f.blocks->jl D (f.first+k) r->zt f.birth f.life r
 gap:f.aa.length<f.blocks-> ∀ r,jl D (f.first+f.aa.length) r->zt f.birth (dQ ls f.aa.length) r
 lost: ∀ k (h:k<f.aa.length) r,jl D (f.first+k) r->r=(bB f.birth (ls.getD k 0) f.aa[k],0)\/(safe<=k/\zt f.birth (dQ ls k) r)
theorem bW.less {D:Dk} {f:Fl} {ls:List Nat} {s t:Nat} (h:bW D f ls s) (hts:t<=s):bW D f ls t:=
 ⟨h.len,h.fits,h.small,h.sorted,h.top,Nat.le_trans hts h.safeLe,h.now,h.all,h.aG,h.new,h.behind,h.gap,fun k hk r hr=>(h.lost k hk r hr).imp id fun ⟨h1,h2⟩=>⟨by omega,h2⟩⟩
theorem pb {P:Nat->Prop}: ∀ n, ∃ m,m<=n/\(∀ j,j<m->P j)/\(m<n->¬ P m)
 | 0=>⟨0,Nat.le_refl _,fun j h=>by omega,fun h=>by omega⟩
 | n+1=>by
  obtain⟨m,h1,h2,h3⟩:=pb (P:=P) n;by_cases hm:m<n
  .exact⟨m,by omega,h2,fun _=>h3 hm⟩
  .have:m=n:=by omega
   subst this;by_cases hp:P m
   .exact⟨m+1,Nat.le_refl _,fun j hj=>by
     by_cases e:j=m
     .subst e;exact hp
     .exact h2 j (by omega),fun h=>by omega⟩
   .exact⟨m,by omega,h2,fun _=>hp⟩
section
variable {D E:Dk} {f:Fl} {ls:List Nat} {safe:Nat}
theorem bW.IA (h:bW D f ls safe) (hb:f.birth<18446744073709551616) (hl:f.life<18446744073709551616) (hE: ∀ k,k<f.blocks->jl D (f.first+k) (E.read ((f.first+k:Nat):Int))):
 ∃ m,safe<=m/\m<=f.aa.length/\(aV E f.birth f.first f.blocks).aa=f.aa.take m/\
  (∀ k (hk:k<f.aa.length),k<m->E.read ((f.first+k:Nat):Int)=(bB f.birth (ls.getD k 0) f.aa[k],0))/\
  (m<f.blocks->zt f.birth (dQ ls m) (E.read ((f.first+m:Nat):Int))):=by
 obtain⟨m,h1,h2,h3⟩:=pb (P:=fun k=> ∀ hk:k<f.aa.length,E.read ((f.first+k:Nat):Int)=(bB f.birth (ls.getD k 0) f.aa[k],0)) f.aa.length;have hfit:=h.fits;have hj:m<f.blocks->zt f.birth (dQ ls m) (E.read ((f.first+m:Nat):Int)):=fun hm=>by
  by_cases e:m<f.aa.length
  .have h4:=h3 e;rcases h.lost m e _ (hE m hm) with h5 | h5
   .exact absurd (fun _=>h5) h4
   .exact h5.2
  .have:m=f.aa.length:=by omega
   subst this;exact h.gap hm _ (hE _ hm)
 have hsafe:safe<=m:=by
  rcases Nat.lt_or_ge m safe with hlt | hge
  .have hs:=h.safeLe;have e:m<f.aa.length:=by omega
   rcases h.lost m e _ (hE m (by omega)) with h5 | h5
   .exact absurd (fun _=>h5) (h3 e)
   .omega
  .exact hge
 have ht:=zF (D:=E) (first:=f.first) hb h.small (fun k hk=>by have:=h.top k hk;omega) h.sorted m h1 (fun k hk hkm=>h2 k hkm hk);refine⟨m,hsafe,h1,?_,fun k hk hkm=>h2 k hkm hk,hj⟩;by_cases hm:m<f.blocks
 .have hst:=Hy ht.2.1 (hj hm);have ho:=vI (m+1) hst.1 (f.blocks - (m+1));rw[show m+1+(f.blocks - (m+1))=f.blocks by omega] at ho;rw[ho.2,hst.2,ht.2.2]
 .have:m=f.blocks:=by omega
  rw[<-this];exact ht.2.2
theorem bW.JQ (h:bW D f ls safe) (hE: ∀ k,k<f.blocks->jl D (f.first+k) (E.read ((f.first+k:Nat):Int))):(aV E f.birth f.first f.blocks).aG<=f.life:=
 Nat.le_trans (fy f.blocks fun k hk h1 h2=>h.all k _ hk (hE k hk) h1 h2) h.aG
theorem bW.crashed (h:bW D f ls safe) (hb:f.birth<18446744073709551616) (hl:f.life<9223372036854775808) (hE: ∀ k,k<f.blocks->jl D (f.first+k) (E.read ((f.first+k:Nat):Int)))
 (hS: ∀ k r,k<f.blocks->jl E (f.first+k) r->r=E.read ((f.first+k:Nat):Int)):
 ∃ m,safe<=m/\m<=f.aa.length/\ ∃ life,life<=f.life+1/\Fl.load E { f with aa:=[] }={ f with life:=life,aa:=f.aa.take m }/\bW E { f with life:=life,aa:=f.aa.take m } (ls.take m) m:=by
 obtain⟨m,h1,h2,h3,h4,h5⟩:=h.IA hb (by omega) hE;have hm2:=h.JQ hE;refine⟨m,h1,h2,(aV E f.birth f.first f.blocks).aG+1,by omega,?_,?_⟩
 .unfold Fl.load;simp only[List.nil_append];rw[h3,Nat.mod_eq_of_lt (by omega)]
 have hlt:(f.aa.take m).length=m:=by rw[List.length_take];omega
 have hgt: ∀ k,k<m->(ls.take m).getD k 0=ls.getD k 0:=fun k hk=>by
  rw[List.getD_eq_getElem?_getD,List.getD_eq_getElem?_getD,List.getElem?_take,if_pos hk]
 have hlast:dQ (ls.take m) m=dQ ls m:=by
  unfold dQ;split
  .rfl
  .exact hgt (m - 1) (by omega)
 have hlk: ∀ k,k<=m->dQ (ls.take m) k=dQ ls k:=fun k hk=>by
  unfold dQ;split
  .rfl
  .exact hgt (k - 1) (by omega)
 have hfit:=h.fits;have hge: ∀ k,k<m->ls.getD k 0<=(aV E f.birth f.first f.blocks).aG:=fun k hk=>by
  have hr:=h4 k (by omega) hk;have hp:=h.small f.aa[k] (List.getElem_mem _);have hlk2:ls.getD k 0<18446744073709551616:=by have:=h.top k (by omega);omega
  have h9:=gB (D:=E) (birth:=f.birth) (first:=f.first) (n:=f.blocks) (k:=k) (by omega) (by rw[hr]) (by rw[hr];exact gU hb hlk2 hp);rw[hr] at h9;rwa [gK hb hlk2 hp] at h9
 refine⟨by rw[List.length_take];simp only[hlt];have:=h.len;omega,by simp only[hlt];omega,fun p hp=>h.small p (List.mem_of_mem_take hp),fun k hk=>?_,fun k hk=>?_,by simp only[hlt];omega,fun k hk=>?_,fun k r hk hr hr2 hg=>?_,Nat.le_succ _,fun e=>by simp only at e;omega,fun k r hk hkb hr=>?_,fun hk r hr=>?_,fun k hk r hr=>?_⟩
 .simp only[hlt] at hk;rw[hgt k (by omega),hgt (k+1) (by omega)];exact h.sorted k (by omega)
 .simp only[hlt] at hk;rw[hgt k hk];have:=hge k hk;simp only;omega
 .simp only[hlt] at hk;simp only[hgt k hk,List.getElem_take];exact h4 k (by omega) hk
 .simp only at hr hg hk ⊢;rw[hS k r hk hr] at hr2 hg ⊢;exact gB hk hr2 hg
 .simp only[hlt] at hk hr hkb ⊢;rw[hS k r hkb hr];by_cases e1:(E.read ((f.first+k:Nat):Int)).2=0
  .by_cases e2:eW f.birth (E.read ((f.first+k:Nat):Int)).1=true
   .have:=gB (n:=f.blocks) hkb e1 e2;exact .inr (.inr (by omega))
   .exact .inr (.inl (by simpa using e2))
  .exact .inl e1
 .simp only[hlt] at hk hr ⊢;rw[hlast,hS m r hk hr];exact h5 hk
 .simp only[hlt] at hk hr;simp only[hgt k hk,List.getElem_take];left
  rw[hS k r (by omega) hr];exact h4 k (by omega) hk
theorem bW.again (h:bW D f ls safe) (hb:f.birth<18446744073709551616) (hl:f.life<9223372036854775808) (hE: ∀ k,k<f.blocks->jl D (f.first+k) (D.read ((f.first+k:Nat):Int))):
 ∃ life,life<=f.life+1/\Fl.load D { f with aa:=[] }={ f with life:=life }/\bW D { f with life:=life } ls safe:=by
 obtain⟨m,h1,h2,h3,h4,h5⟩:=h.IA hb (by omega) hE;have hm:m=f.aa.length:=by
  rcases Nat.lt_or_ge m f.aa.length with hlt | hge
  .have hfit:=h.fits;have hj:=h5 (by omega);have hn:=h.now m hlt;rw[hn] at hj;have hp:=h.small f.aa[m] (List.getElem_mem _);have hlm:ls.getD m 0<18446744073709551616:=by have:=h.top m hlt;omega
   rcases hj with hj | hj | hj
   .exact absurd rfl hj
   .simp only at hj;rw[gU hb hlm hp] at hj;cases hj
   .simp only at hj;rw[gK hb hlm hp] at hj;unfold dQ at hj;split at hj
    .omega
    .have:=h.sorted (m - 1) (by omega);rw[show m - 1+1=m by omega] at this;omega
  .omega
 subst hm;rw[List.take_length] at h3;refine⟨(aV D f.birth f.first f.blocks).aG+1,by have:=h.aG;omega,?_,?_⟩
 .unfold Fl.load;simp only[List.nil_append];rw[h3,Nat.mod_eq_of_lt (by have:=h.aG;omega)]
 have hge: ∀ k,k<f.aa.length->ls.getD k 0<=(aV D f.birth f.first f.blocks).aG:=fun k hk=>by
  have hr:=h.now k hk;have hp:=h.small f.aa[k] (List.getElem_mem _);have hlk2:ls.getD k 0<18446744073709551616:=by have:=h.top k hk;omega
  have h9:=gB (D:=D) (birth:=f.birth) (first:=f.first) (n:=f.blocks) (k:=k) (by have:=h.fits;omega) (by rw[hr]) (by rw[hr];exact gU hb hlk2 hp);rw[hr] at h9;rwa [gK hb hlk2 hp] at h9
 refine⟨h.len,h.fits,h.small,h.sorted,fun k hk=>?_,h.safeLe,h.now,h.all,Nat.le_succ _,fun e=>by simp only at e;omega,fun k r hk hkb hr=>?_,h.gap,h.lost⟩
 .have:=hge k hk;simp only;omega
 .by_cases e1:r.2=0
  .by_cases e2:eW f.birth r.1=true
   .have:=h.all k r hkb hr e1 e2;exact .inr (.inr (by simp only;omega))
   .exact .inr (.inl (by simpa using e2))
  .exact .inl e1
end
def Dk.wr (D:Dk) (i:Nat) (b:List UInt8):Dk:={ D.dC i b with off:=false }
section
variable {D E:Dk} {f:Fl} {ls:List Nat} {safe:Nat} {i j:Nat} {b:List UInt8} {r:List UInt8 × Int}
theorem DK:(D.wr i b).cells.length=D.cells.length:=rfl
theorem zw:(D.wr i b).off=false:=rfl
theorem vR (hw:yu D) (hi:i<D.cells.length) (hb:b.length=512):yu (D.wr i b):=⟨(H7 hw hi hb).pend⟩
theorem jq (hr:jl (D.wr i b) j r):jl D j r\/(j=i/\(r=(b,0)\/r=([],24))):=FT D i j b hr
theorem uk (j:Nat):(D.wr i b).last j=if j=i then some b else D.last j:=Bk D i j b
theorem oX (h0:D.off=false) (hj:j<D.cells.length):(D.wr i b).read j=if j=i then (b,0) else D.read j:=by
 by_cases e:j=i
 .rw[if_pos e];exact ji _ j zw hj (by rw[uk,if_pos e])
 .rw[if_neg e]
  cases hl:D.last j with
  | none=>
   rw[eX D j h0 hj hl];exact eX _ j zw hj (by rw[uk,if_neg e];exact hl)
  | some c=>
   rw[ji D j h0 hj hl];exact ji _ j zw hj (by rw[uk,if_neg e];exact hl)
theorem xH {birth first:Nat}: ∀ n,(∀ k,k<n->E.read ((first+k:Nat):Int)=D.read ((first+k:Nat):Int))->aV E birth first n=aV D birth first n
 | 0,_=>rfl
 | n+1,h=>by
  unfold aV;rw[h n (by omega),xH n (fun k hk=>h k (by omega))]
theorem bW.same (h:bW D f ls safe) (h1: ∀ k,k<f.blocks->E.read ((f.first+k:Nat):Int)=D.read ((f.first+k:Nat):Int)) (h2: ∀ k r,k<f.blocks->jl E (f.first+k) r->jl D (f.first+k) r):bW E f ls safe:=by
 have hfit:=h.fits;have hld:=xH (D:=D) (E:=E) (birth:=f.birth) (first:=f.first) f.blocks h1;exact⟨h.len,h.fits,h.small,h.sorted,h.top,h.safeLe,fun k hk=>by rw[h1 k (by omega)];exact h.now k hk,fun k r hk hr=>by rw[hld];exact h.all k r hk (h2 k r hk hr),by rw[hld];exact h.aG,by rw[hld];exact h.new,
  fun k r hk hkb hr=>h.behind k r hk hkb (h2 k r hkb hr),fun hk r hr=>h.gap hk r (h2 _ r hk hr),fun k hk r hr=>h.lost k hk r (h2 k r (by omega) hr)⟩
theorem bW.Kb (h:bW D f ls safe) (h0:D.off=false) (hn:f.first+f.blocks<=D.cells.length) (hi:i<f.first\/f.first+f.blocks<=i):bW (D.wr i b) f ls safe:=
 h.same (fun k hk=>by rw[oX h0 (by omega),if_neg (by omega)]) (fun k r hk hr=>by
  rcases jq hr with h1 | ⟨h1,_⟩
  .exact h1
  .omega)
theorem bW.flush (h:bW D f ls safe) (hw:yu D) (h0:D.off=false) (hn:f.first+f.blocks<=D.cells.length):bW D.flush.1 f ls f.aa.length:=by
 have hl:D.flush.1.cells.length=D.cells.length:=by rw[dg D h0];exact oY _ _
 have ho:D.flush.1.off=false:=by rw[dg D h0];exact h0
 have hp:D.flush.1.pend=[]:=by rw[dg D h0]
 have hm: ∀ k r,k<f.blocks->jl D.flush.1 (f.first+k) r->r=D.read ((f.first+k:Nat):Int):=fun k r hk hr=>by
  rw[ua _ _ hp ho (by omega) hr,gL D hw h0 _ (by omega)]
 have h2:=h.same (E:=D.flush.1) (fun k hk=>gL D hw h0 _ (by omega)) (fun k r hk hr=>by rw[hm k r hk hr];exact fA D _ h0 (by omega));exact⟨h2.len,h2.fits,h2.small,h2.sorted,h2.top,Nat.le_refl _,h2.now,h2.all,h2.aG,h2.new,h2.behind,h2.gap,fun k hk r hr=>by
  have:=h.fits;left
  rw[hm k r (by omega) hr];exact h.now k hk⟩
theorem gq {ls:List Nat} {x k:Nat} (h:k<ls.length):(ls++[x]).getD k 0=ls.getD k 0:=by
 rw[List.getD_eq_getElem?_getD,List.getD_eq_getElem?_getD,List.getElem?_append_left h]
theorem kN {ls:List Nat} {x:Nat}:(ls++[x]).getD ls.length 0=x:=by
 rw[List.getD_eq_getElem?_getD,List.getElem?_append_right (Nat.le_refl _),Nat.sub_self];rfl
theorem bW.append (h:bW D f ls safe) (h0:D.off=false) (hn:f.first+f.blocks<=D.cells.length) (hb:f.birth<18446744073709551616) (hl:f.life<9223372036854775808) {p:List UInt8} (hp:p.length<=480) (hlt:f.aa.length<f.blocks):
 bW (D.wr (f.first+f.aa.length) (bB f.birth f.life p)) { f with aa:=f.aa++[p] } (ls++[f.life]) safe:=by
 have hlen:=h.len;have hl2:f.life<18446744073709551616:=by omega
 obtain⟨i,hi⟩: ∃ i,i=f.first+f.aa.length:=⟨_,rfl⟩;obtain⟨b,hbb⟩: ∃ b,b=bB f.birth f.life p:=⟨_,rfl⟩;have g1:=gU hb hl2 hp;have g2:=gK hb hl2 hp;rw[<-hbb] at g1 g2;rw[<-hi, <-hbb];have hfl:(f.aa++[p]).length=f.aa.length+1:=by rw[List.length_append];rfl
 have hrd: ∀ k,k<f.blocks->(D.wr i b).read ((f.first+k:Nat):Int)=if k=f.aa.length then (b,0) else D.read ((f.first+k:Nat):Int):=fun k hk=>by
  rw[oX h0 (by omega)];by_cases e:k=f.aa.length
  .rw[if_pos e,if_pos (by omega)]
  .rw[if_neg e,if_neg (by omega)]
 have hmy: ∀ k r,k<f.blocks->jl (D.wr i b) (f.first+k) r->jl D (f.first+k) r\/(k=f.aa.length/\(r=(b,0)\/r=([],24))):=fun k r hk hr=>by
  rcases jq hr with h1 | ⟨h1,h2⟩
  .exact .inl h1
  .exact .inr ⟨by omega,h2⟩
 have hbig:f.life<=(aV (D.wr i b) f.birth f.first f.blocks).aG:=by
  have h9:=gB (D:=D.wr i b) (birth:=f.birth) (first:=f.first) (n:=f.blocks) (k:=f.aa.length) hlt (by rw[hrd _ hlt,if_pos rfl]) (by rw[hrd _ hlt,if_pos rfl];exact g1);rw[hrd _ hlt,if_pos rfl] at h9;rwa [g2] at h9
 have hsm:(aV (D.wr i b) f.birth f.first f.blocks).aG<=f.life:=fy f.blocks fun k hk e1 e2=>by
  rw[hrd k hk] at e1 e2 ⊢;by_cases e:k=f.aa.length
  .rw[if_pos e,g2];exact Nat.le_refl _
  .rw[if_neg e] at e1 e2 ⊢;exact Nat.le_trans (h.all k _ hk (fA D _ h0 (by omega)) e1 e2) h.aG
 have hm:=h.aG;have hlk: ∀ k,k<=f.aa.length->dQ (ls++[f.life]) k=dQ ls k:=fun k hk=>by
  unfold dQ;split
  .rfl
  .exact gq (by omega)
 have hll:dQ (ls++[f.life]) (f.aa.length+1)=f.life:=by
  unfold dQ;rw[if_neg (by omega),Nat.add_sub_cancel, <-hlen];exact kN
 refine⟨by rw[List.length_append,hlen,hfl];rfl,by rw[hfl];exact hlt,fun q hq=>?_,fun k hk=>?_,fun k hk=>?_,by rw[hfl];have:=h.safeLe;omega,fun k hk=>?_,fun k r hk hr e1 e2=>?_,hsm,fun _=>⟨by rw[hfl];omega,by rw[hfl];exact hll⟩,fun k r hk hkb hr=>?_,fun hk r hr=>?_,fun k hk r hr=>?_⟩
 .rcases List.mem_append.1 hq with hq | hq
  .exact h.small q hq
  .rw[List.mem_singleton] at hq;subst hq;exact hp
 .rw[hfl] at hk;rw[gq (by omega)];by_cases e:k+1=f.aa.length
  .have:(ls++[f.life]).getD (k+1) 0=f.life:=by rw[e, <-hlen];exact kN
   rw[this];exact h.top k (by omega)
  .rw[gq (by omega)];exact h.sorted k (by omega)
 .rw[hfl] at hk;by_cases e:k=f.aa.length
  .have:(ls++[f.life]).getD k 0=f.life:=by rw[e, <-hlen];exact kN
   rw[this];exact Nat.le_refl _
  .rw[gq (by omega)];exact h.top k (by omega)
 .rw[hfl] at hk;show (D.wr i b).read ((f.first+k:Nat):Int)=_;rw[hrd k (by omega)];by_cases e:k=f.aa.length
  .have e2:(ls++[f.life]).getD k 0=f.life:=by rw[e, <-hlen];exact kN
   rw[if_pos e,e2];have e3:(f.aa++[p])[k]'(by rw[hfl];omega)=p:=by simp[e]
   simp only[e3,hbb]
  .rw[if_neg e,gq (by omega)];have e3:(f.aa++[p])[k]'(by rw[hfl];omega)=f.aa[k]'(by omega):=List.getElem_append_left (by omega);simp only[e3];exact h.now k (by omega)
 .rcases hmy k r hk hr with h1 | ⟨_,h2 | h2⟩
  .have:=h.all k r hk h1 e1 e2;show fS r.1<=(aV (D.wr i b) f.birth f.first f.blocks).aG;omega
  .rw[h2];show fS b<=(aV (D.wr i b) f.birth f.first f.blocks).aG;rw[g2];exact hbig
  .rw[h2] at e1;cases e1
 .rw[hfl] at hk;rcases hmy k r hkb hr with h1 | ⟨h1,_⟩
  .exact h.behind k r (by omega) hkb h1
  .omega
 .rw[hfl] at hk hr ⊢;rw[hll];rcases hmy _ r hk hr with h1 | ⟨h1,_⟩
  .exact h.behind _ r (by omega) hk h1
  .omega
 .rw[hfl] at hk;rw[hlk k (by omega)];by_cases e:k=f.aa.length
  .have e2:(ls++[f.life]).getD k 0=f.life:=by rw[e, <-hlen];exact kN
   have e3:(f.aa++[p])[k]'(by rw[hfl];omega)=p:=by simp[e]
   simp only[e2,e3];rcases hmy k r (by omega) hr with h1 | ⟨_,h2 | h2⟩
   .subst e;exact .inr ⟨h.safeLe,h.gap hlt r h1⟩
   .left;rw[h2,hbb]
   .right
    refine⟨by have:=h.safeLe;omega,.inl ?_⟩;rw[h2];decide
  .rw[gq (by omega)];have e3:(f.aa++[p])[k]'(by rw[hfl];omega)=f.aa[k]'(by omega):=List.getElem_append_left (by omega);simp only[e3];rcases hmy k r (by omega) hr with h1 | ⟨h1,_⟩
   .exact h.lost k (by omega) r h1
   .omega
theorem bW.fresh {num first blocks turn:Nat} (h: ∀ k r,k<blocks->jl D (first+k) r->r.2=0->bu (r.1.take 8)<turn) (h0:D.off=false) (hn:first+blocks<=D.cells.length):bW D ⟨num,first,blocks,turn,1,[]⟩ [] 0:=by
 have hg: ∀ k r,k<blocks->jl D (first+k) r->r.2=0->eW turn r.1=false:=fun k r hk hr e=>by
  have:=h k r hk hr e;unfold eW;exact decide_eq_false (by rintro ⟨h1,_⟩;omega)
 have hm:(aV D turn first blocks).aG<=0:=fy blocks fun k hk e1 e2=>by
  rw[hg k _ hk (fA D _ h0 (by omega)) e1] at e2;cases e2
 have hj: ∀ k r x,k<blocks->jl D (first+k) r->zt turn x r:=fun k r x hk hr=>by
  by_cases e:r.2=0
  .exact .inr (.inl (hg k r hk hr e))
  .exact .inl e
 have no: ∀ k,¬ k<([]:List (List UInt8)).length:=fun k hk=>by simp at hk
 refine⟨rfl,Nat.zero_le _,by simp,fun k hk=>absurd hk (no _),fun k hk=>absurd hk (no k),Nat.zero_le _,fun k hk=>absurd hk (no k),fun k r hk hr e1 e2=>?_,?_,fun e=>?_,fun k r _ hk hr=>hj k r _ hk hr,fun hk r hr=>hj 0 r _ hk hr,fun k hk=>absurd hk (no k)⟩
 .have h9:eW turn r.1=true:=e2;rw[hg k r hk hr e1] at h9
  cases h9
 .show (aV D turn first blocks).aG<=1;omega
 .have h9:(aV D turn first blocks).aG=1:=e;omega
end
structure nI (n turn:Nat) (fs:List Fl):Prop where
 count:fs.length<=24
 nums:fs.Pairwise fun a b=>a.num<b.num
 apart:fs.Pairwise fun a b=>a.first+a.blocks<=b.first\/b.first+b.blocks<=a.first
 each: ∀ f ∈ fs,1<=f.num/\f.num<2147483648/\2<=f.first/\1<=f.blocks/\f.first+f.blocks<=n/\f.birth<=turn
structure vi (D:Dk) (turn:Nat) (fs:List Fl) (sf:Nat->Nat) (lim:Nat):Prop where
 off:D.off=false
 wf:yu D
 two:2<=D.cells.length
 aG:D.cells.length<=65536
 ok:nI D.cells.length turn fs
 cap:turn<=lim/\lim<=1000000000
 each: ∀ f ∈ fs,f.life<=lim/\ ∃ ls,bW D f ls (sf f.num)
 births: ∀ i,2<=i->i<D.cells.length-> ∀ r,jl D i r->r.2=0->bu (r.1.take 8)<=turn
structure iM (D:Dk) (slot turn:Nat) (hs:List Hd):Prop where
 lt:slot<2
 here: ∀ r,jl D slot r->r=(bN turn hs,0)
 there: ∀ r,jl D (1 - slot) r->r.2=0-> ∀ t gs,cY r.1=some (t,gs)->jZ D.cells.length gs=true->t<turn
structure Good (D:Dk) (S:aK) (sf:Nat->Nat) (lim:Nat):Prop where
 fils:vi D S.turn S.files sf lim
 heads:iM D S.slot S.turn (S.files.map Fl.hd)
section
variable {D E:Dk} {S:aK} {sf:Nat->Nat} {lim turn slot n:Nat} {fs:List Fl} {f:Fl}
theorem nI.E8 (h:nI n turn fs) (hn:n<=65536) (ht:turn<9223372036854775807): ∀ x ∈ fs.map Fl.hd,oK x:=fun x hx=>by
 obtain⟨f,hf,rfl⟩:=List.mem_map.1 hx;obtain⟨h1,h2,h3,h4,h5,h6⟩:=h.each f hf;exact⟨by show f.num<_;omega,by show f.first<_;omega,by show f.blocks<_;omega,by show f.birth<_;omega⟩
theorem nI.JI (h:nI n turn fs):jZ n (fs.map Fl.hd)=true:=by
 unfold jZ;rw[List.all_eq_true];intro x hx;obtain⟨f,hf,rfl⟩:=List.mem_map.1 hx;obtain⟨h1,h2,h3,h4,h5,h6⟩:=h.each f hf;exact decide_eq_true ⟨h3,h4,by show (f.blocks:Int)<=n - f.first;omega⟩
theorem od {hs:List Hd} (h:iM D slot turn hs) (h0:D.off=false) (h2:2<=D.cells.length) (ht:turn<18446744073709551616) (hn:hs.length<=24) (ho: ∀ x ∈ hs,oK x) (hl:jZ D.cells.length hs=true):
 cC D=(some ⟨slot,turn,hs.map Hd.fl⟩,0):=by
 have hu:=kE ht hn ho;have r1:=h.here _ (fA D slot h0 (by have:=h.lt;omega));have hs2:=h.lt;have r2:=h.there _ (fA D (1 - slot) h0 (by omega));unfold cC;rw[h0];simp only[Bool.false_eq_true,if_false];have hb: ∀ s:Option aK,(∀ x,s=some x->x.turn<turn)->eK D s slot=some ⟨slot,turn,hs.map Hd.fl⟩:=fun s hsx=>by
  unfold eK;rw[r1];simp only[ne_eq,not_true_eq_false,if_false,hu];rw[if_pos];refine⟨hl,?_⟩
  cases s with
  | none=>rfl
  | some x=>exact decide_eq_true (hsx x rfl)
 have ha: ∀ x,eK D none (1 - slot)=some x->x.turn<turn:=fun x hx=>by
  unfold eK at hx;split at hx
  .cases hx
  .rename_i e;split at hx
   .cases hx
   .rename_i t gs e2;split at hx
    .rename_i e3;injection hx with hx
     rw[<-hx];exact r2 (by simpa using e) t gs e2 e3.1
    .cases hx
 have hc:eK D (some ⟨slot,turn,hs.map Hd.fl⟩) (1 - slot)=some ⟨slot,turn,hs.map Hd.fl⟩:=by
  unfold eK;split
  .rfl
  .rename_i e;split
   .rfl
   .rename_i t gs e2;rw[if_neg];rintro ⟨e3,e4⟩;have:=r2 (by simpa using e) t gs e2 e3;have e5:turn<t:=of_decide_eq_true e4;omega
 have hcase:slot=0\/slot=1:=by omega
 rcases hcase with rfl | rfl
 .have h1:=hb none (fun x e=>by cases e);rw[h1];rw[show eK D (some ⟨0,turn,hs.map Hd.fl⟩) 1=some ⟨0,turn,hs.map Hd.fl⟩ from hc]
 .rw[hb _ ha]
theorem iM.sub {hs:List Hd} (h:iM D slot turn hs) (hl:E.cells.length=D.cells.length) (h2:2<=D.cells.length) (hm: ∀ i r,i<D.cells.length->jl E i r->jl D i r):iM E slot turn hs:=by
 have:=h.lt;exact⟨h.lt,fun r hr=>h.here r (hm slot r (by omega) hr),fun r hr=>by rw[hl];exact h.there r (hm _ r (by omega) hr)⟩
def dh (fs:List Fl) (num:Nat):Nat:=match fs.find? fun f=>f.num==num with | some f=>f.aa.length | none=>0
theorem my: ∀ {fs:List Fl},(fs.Pairwise fun a b=>a.num<b.num)->f ∈ fs->(fs.find? fun g=>g.num==f.num)=some f
 | [],_,h=>by cases h
 | g::gs,hp,h=>by
  rw[List.find?_cons];rcases List.mem_cons.1 h with rfl | h
  .simp
  .have:=(List.pairwise_cons.1 hp).1 f h;rw[show (g.num==f.num)=false by simp;omega];exact my (List.pairwise_cons.1 hp).2 h
theorem nM (hp:fs.Pairwise fun a b=>a.num<b.num) (h:f ∈ fs):dh fs f.num=f.aa.length:=by
 unfold dh;rw[my hp h]
def fF (sf:Nat->Nat):List Fl->List Fl->Prop
 | [],[]=>True
 | f::fs,g::gs=>(g.num=f.num/\g.first=f.first/\g.blocks=f.blocks/\g.birth=f.birth/\ ∃ m,sf f.num<=m/\m<=f.aa.length/\g.aa=f.aa.take m)/\fF sf fs gs
 | _,_=>False
theorem fF.hd {sf:Nat->Nat}: ∀ {fs gs:List Fl},fF sf fs gs->gs.map Fl.hd=fs.map Fl.hd
 | [],[],_=>rfl
 | f::fs,g::gs,h=>by
  obtain⟨⟨h1,h2,h3,h4,_⟩,h5⟩:=h;rw[List.map_cons,List.map_cons,h5.hd];unfold Fl.hd;rw[h1,h2,h3,h4]
 | [],_::_,h=>h.elim
 | _::_,[],h=>h.elim
theorem nI.hd {gs:List Fl} (h:nI n turn fs) (e:gs.map Fl.hd=fs.map Fl.hd):nI n turn gs:=by
 have hl:gs.length=fs.length:=by have:=congrArg List.length e;simpa using this
 have hi: ∀ i (h1:i<gs.length),(gs[i].num=(fs[i]'(by omega)).num/\gs[i].first=(fs[i]'(by omega)).first)/\gs[i].blocks=(fs[i]'(by omega)).blocks/\gs[i].birth=(fs[i]'(by omega)).birth:=fun i h1=>by
  have h2:(gs.map Fl.hd)[i]?=(fs.map Fl.hd)[i]?:=by rw[e]
  rw[List.getElem?_map,List.getElem?_map,List.getElem?_eq_getElem h1,List.getElem?_eq_getElem (show i<fs.length by omega)] at h2;simp only[Option.map_some] at h2;injection h2 with h2
  unfold Fl.hd at h2;injection h2 with a b c d
  exact⟨⟨a,b⟩,c,d⟩
 refine⟨by rw[hl];exact h.count,?_,?_,fun g hg=>?_⟩
 .rw[List.pairwise_iff_getElem];intro i j h1 h2 hij;have:=List.pairwise_iff_getElem.1 h.nums i j (by omega) (by omega) hij;rw[(hi i h1).1.1,(hi j h2).1.1];exact this
 .rw[List.pairwise_iff_getElem];intro i j h1 h2 hij;have:=List.pairwise_iff_getElem.1 h.apart i j (by omega) (by omega) hij;rw[(hi i h1).1.2,(hi j h2).1.2,(hi i h1).2.1,(hi j h2).2.1];exact this
 .obtain⟨i,h1,rfl⟩:=List.getElem_of_mem hg;have:=h.each (fs[i]'(by omega)) (List.getElem_mem _);rw[(hi i h1).1.1,(hi i h1).1.2,(hi i h1).2.1,(hi i h1).2.2];exact this
theorem AN (f:Fl):Fl.load E f.hd.fl=Fl.load E { f with aa:=[] }:=rfl
theorem qP (h:vi D turn fs sf lim) (hl:E.cells.length=D.cells.length) (hE: ∀ i,i<D.cells.length->jl D i (E.read (i:Int))) (hS: ∀ i r,i<D.cells.length->jl E i r->r=E.read (i:Int)):
 ∀ gs,(∀ f ∈ gs,f ∈ fs)->fF sf gs (gs.map fun f=>Fl.load E f.hd.fl)/\ ∀ g ∈ (gs.map fun f=>Fl.load E f.hd.fl),g.life<=lim+1/\ ∃ ls,bW E g ls g.aa.length
 | [],_=>⟨trivial,by simp⟩
 | f::gs,hg=>by
  have hf:=hg f (by simp);obtain⟨i1,i2⟩:=qP h hl hE hS gs (fun x hx=>hg x (List.mem_cons_of_mem _ hx));obtain⟨h1,ls,h2⟩:=h.each f hf;obtain⟨a1,a2,a3,a4,a5,a6⟩:=h.ok.each f hf;have hlim:=h.cap;obtain⟨m,b1,b2,life,b3,b4,b5⟩:=h2.crashed (E:=E) (by omega) (by omega) (fun k hk=>hE _ (by omega)) (fun k r hk hr=>hS _ r (by omega) hr);rw[List.map_cons,AN,b4];refine⟨⟨⟨rfl,rfl,rfl,rfl,m,b1,b2,rfl⟩,i1⟩,fun g hg=>?_⟩;rcases List.mem_cons.1 hg with rfl | hg
  .refine⟨by show life<=lim+1;omega,ls.take m,?_⟩;have e:(f.aa.take m).length=m:=by rw[List.length_take];omega
   have:({ f with life:=life,aa:=f.aa.take m }:Fl).aa.length=m:=e;rw[this];exact b5
  .exact i2 g hg
theorem pW (h:vi D turn fs sf lim): ∀ gs,(∀ f ∈ gs,f ∈ fs)->fF (fun num=>dh fs num) gs (gs.map fun f=>Fl.load D f.hd.fl)/\ ∀ g ∈ (gs.map fun f=>Fl.load D f.hd.fl),g.life<=lim+1/\ ∃ ls,bW D g ls (sf g.num)
 | [],_=>⟨trivial,by simp⟩
 | f::gs,hg=>by
  have hf:=hg f (by simp);obtain⟨i1,i2⟩:=pW h gs (fun x hx=>hg x (List.mem_cons_of_mem _ hx));obtain⟨h1,ls,h2⟩:=h.each f hf;obtain⟨a1,a2,a3,a4,a5,a6⟩:=h.ok.each f hf;have hlim:=h.cap;obtain⟨life,b3,b4,b5⟩:=h2.again (by omega) (by omega) (fun k hk=>fA D _ h.off (by omega));rw[List.map_cons,AN,b4];refine⟨⟨⟨rfl,rfl,rfl,rfl,f.aa.length,by show dh fs f.num<=_;rw[nM h.ok.nums hf];exact Nat.le_refl _,Nat.le_refl _,(List.take_length).symm⟩,i1⟩,fun g hg=>?_⟩;rcases List.mem_cons.1 hg with rfl | hg
  .exact⟨by show life<=lim+1;omega,ls,b5⟩
  .exact i2 g hg
theorem oZ {s:aK} (h:cC D=(some s,0)):cJ D=(some { s with files:=s.files.map (Fl.load D) },0):=by
 unfold cJ;rw[h];rfl
structure uv (D E:Dk):Prop where
 off:E.off=false
 wf:yu E
 len:E.cells.length=D.cells.length
 may: ∀ i,i<D.cells.length->jl D i (E.read (i:Int))
 one: ∀ i r,i<D.cells.length->jl E i r->r=E.read (i:Int)
theorem lZ {keep:List Bool} {torn bytes:Int} (hw:yu D):uv D (D.bZ keep torn bytes):=
 ⟨nt,FH,ew,fun i hi=>CD hw i hi,fun i r hi hr=>ua _ i lR nt (by rw[ew];exact hi) hr⟩
theorem uv.sub (h:uv D E): ∀ i r,i<D.cells.length->jl E i r->jl D i r:=fun i r hi hr=>by rw[h.one i r hi hr];exact h.may i hi
theorem found (hlim2:lim+1<=1000000000) (hf:vi D turn fs sf lim) (hc:uv D E) (hh:iM E slot turn (fs.map Fl.hd)): ∃ gs,cJ E=(some ⟨slot,turn,gs⟩,0)/\fF sf fs gs/\Good E ⟨slot,turn,gs⟩ (dh gs) (lim+1):=by
 have hlim:=hf.cap;have hr:=od hh hc.off (by rw[hc.len];exact hf.two) (by omega) (by rw[List.length_map];exact hf.ok.count) (hf.ok.E8 hf.aG (by omega)) (by rw[hc.len];exact hf.ok.JI);obtain⟨h1,h2⟩:=qP hf hc.len hc.may hc.one fs (fun _ h=>h);refine⟨fs.map fun f=>Fl.load E f.hd.fl,?_,h1,⟨?_,?_⟩⟩
 .rw[oZ hr];simp only[List.map_map];rfl
 .have hok:nI E.cells.length turn (fs.map fun f=>Fl.load E f.hd.fl):=by rw[hc.len];exact hf.ok.hd h1.hd
  refine⟨hc.off,hc.wf,by rw[hc.len];exact hf.two,by rw[hc.len];exact hf.aG,hok,?_,fun g hg=>?_,fun i hi hin r hr e=>?_⟩
  .exact⟨by show turn<=lim+1;omega,hlim2⟩
  .rw[nM hok.nums hg];exact h2 g hg
  .rw[hc.len] at hin;exact hf.births i hi hin r (hc.sub i r hin hr) e
 .show iM E slot turn _;rw[h1.hd];exact hh
theorem Cb {hs:List Hd} {i:Nat} {b:List UInt8} (h:iM D slot turn hs) (hi:2<=i):iM (D.wr i b) slot turn hs:=by
 have:=h.lt;refine⟨h.lt,fun r hr=>?_,fun r hr=>?_⟩
 .rcases jq hr with h1 | ⟨h1,_⟩
  .exact h.here r h1
  .omega
 .rcases jq hr with h1 | ⟨h1,_⟩
  .exact h.there r h1
  .omega
def aK.grow (S:aK) (num:Nat) (p:List UInt8):aK:={ S with files:=S.files.map fun g=>if g.num=num then { g with aa:=g.aa++[p] } else g }
theorem Ae (S:aK) (num:Nat) (p:List UInt8):(S.grow num p).files.map Fl.hd=S.files.map Fl.hd:=by
 unfold aK.grow;simp only[List.map_map];apply List.map_congr_left;intro g _;simp only[Function.comp];split<;>rfl
theorem Gj: ∀ {fs:List Fl},(fs.Pairwise fun a b=>a.num<b.num)-> ∀ {f g:Fl},f ∈ fs->g ∈ fs->f.num=g.num->f=g:=by
 intro fs hp f g hf hg e;have h1:=my hp hf;have h2:=my hp hg;rw[e,h2] at h1;injection h1 with h1
 exact h1.symm
theorem Ev (h:nI n turn fs) {g:Fl} (hf:f ∈ fs) (hg:g ∈ fs) (hne:f.num≠g.num):f.first+f.blocks<=g.first\/g.first+g.blocks<=f.first:=by
 obtain⟨i,hi,rfl⟩:=List.getElem_of_mem hf;obtain⟨j,hj,rfl⟩:=List.getElem_of_mem hg;have hij:i≠j:=by rintro rfl;exact hne rfl
 rcases Nat.lt_or_ge i j with h1 | h1
 .exact List.pairwise_iff_getElem.1 h.apart i j hi hj h1
 .exact(List.pairwise_iff_getElem.1 h.apart j i hj hi (by omega)).symm
theorem nU (h:Good D S sf lim) (hf:f ∈ S.files) {p:List UInt8} (hp:p.length<=480) (hlt:f.aa.length<f.blocks):Good (D.wr (f.first+f.aa.length) (bB f.birth f.life p)) (S.grow f.num p) sf lim:=by
 have hF:=h.fils;obtain⟨a1,a2,a3,a4,a5,a6⟩:=hF.ok.each f hf;obtain⟨l1,ls,l2⟩:=hF.each f hf;have hlim:=hF.cap;refine⟨⟨rfl,vR hF.wf (by omega) (nr hp),hF.two,hF.aG,hF.ok.hd (Ae S f.num p),hlim,fun g hg=>?_,fun i hi hin r hr e=>?_⟩,?_⟩
 .unfold aK.grow at hg;simp only[List.mem_map] at hg;obtain⟨x,hx,rfl⟩:=hg;by_cases e:x.num=f.num
  .obtain rfl:=Gj hF.ok.nums hx hf e;rw[if_pos rfl];exact⟨l1,_,l2.append hF.off a5 (by omega) (by omega) hp hlt⟩
  .rw[if_neg e];obtain⟨m1,ms,m2⟩:=hF.each x hx;obtain⟨c1,c2,c3,c4,c5,c6⟩:=hF.ok.each x hx;refine⟨m1,ms,m2.Kb hF.off c5 ?_⟩;rcases Ev hF.ok hf hx (fun q=>e q.symm) with q | q
   .left;omega
   .right;omega
 .rcases jq hr with h1 | ⟨h1,h2 | h2⟩
  .exact hF.births i hi hin r h1 e
  .rw[h2];show bu ((bB f.birth f.life p).take 8)<=S.turn;rw[oe (by omega) (by omega) hp];exact a6
  .rw[h2] at e;cases e
 .show iM _ S.slot S.turn _;rw[Ae];exact Cb h.heads (by omega)
theorem eo (hw:yu D) (h0:D.off=false):uv D D.flush.1:=by
 have hl:D.flush.1.cells.length=D.cells.length:=by rw[dg D h0];exact oY _ _
 have ho:D.flush.1.off=false:=by rw[dg D h0];exact h0
 have hp:D.flush.1.pend=[]:=by rw[dg D h0]
 exact⟨ho,⟨fun x hx=>by rw[hp] at hx;cases hx⟩,hl,fun i hi=>by rw[gL D hw h0 i hi];exact fA D i h0 hi,fun i r hi hr=>ua _ i hp ho (by omega) hr⟩
theorem pj (hF:vi D turn fs sf lim):vi D.flush.1 turn fs (dh fs) lim:=by
 have hc:=eo hF.wf hF.off;refine⟨hc.off,hc.wf,by rw[hc.len];exact hF.two,by rw[hc.len];exact hF.aG,by rw[hc.len];exact hF.ok,hF.cap,fun g hg=>?_,fun i hi hin r hr e=>hF.births i hi (by rw[hc.len] at hin;exact hin) r (hc.sub i r (by rw[hc.len] at hin;exact hin) hr) e⟩;obtain⟨m1,ms,m2⟩:=hF.each g hg;rw[nM hF.ok.nums hg];exact⟨m1,ms,m2.flush hF.wf hF.off (hF.ok.each g hg).2.2.2.2.1⟩
theorem pB (h:Good D S sf lim):Good D.flush.1 S (dh S.files) lim:=by
 have hc:=eo h.fils.wf h.fils.off;exact⟨pj h.fils,h.heads.sub hc.len h.fils.two hc.sub⟩
structure Next (D:Dk) (S:aK) (sf:Nat->Nat) (fs:List Fl) (sg:Nat->Nat):Prop where
 ok:nI D.cells.length (S.turn+1) fs
 each: ∀ f ∈ fs,(f ∈ S.files/\sg f.num<=sf f.num)\/(f=⟨f.num,f.first,f.blocks,S.turn+1,1,[]⟩/\sg f.num=0)
section
variable {sg:Nat->Nat} {gs:List Fl}
theorem sd (h:Good D S sf lim) (hn:Next D S sf gs sg) (hlim:lim+1<=1000000000) {b:List UInt8} (hb:b.length=512):vi (D.wr (1 - S.slot) b) (S.turn+1) gs sg (lim+1)/\vi (D.wr (1 - S.slot) b) S.turn S.files sf lim:=by
 have hF:=h.fils;have hs:=h.heads.lt;have h2:=hF.two;have hl:=hF.cap;have hw:=vR (i:=1 - S.slot) (b:=b) hF.wf (by omega) hb;have hbi: ∀ i,2<=i->i<D.cells.length-> ∀ r,jl (D.wr (1 - S.slot) b) i r->r.2=0->bu (r.1.take 8)<=S.turn:=fun i hi hin r hr e=>by
  rcases jq hr with h1 | ⟨h1,_⟩
  .exact hF.births i hi hin r h1 e
  .omega
 refine⟨⟨rfl,hw,h2,hF.aG,hn.ok,⟨by omega,hlim⟩,fun f hf=>?_,fun i hi hin r hr e=>Nat.le_succ_of_le (hbi i hi hin r hr e)⟩,⟨rfl,hw,h2,hF.aG,hF.ok,hl,fun f hf=>?_,hbi⟩⟩
 .obtain⟨a1,a2,a3,a4,a5,a6⟩:=hn.ok.each f hf;rcases hn.each f hf with ⟨e1,e2⟩ | ⟨e1,e2⟩
  .obtain⟨m1,ms,m2⟩:=hF.each f e1;exact⟨by omega,ms,(m2.Kb hF.off a5 (.inl (by omega))).less e2⟩
  .rw[e2,e1];refine⟨by show 1<=lim+1;omega,[],bW.fresh (fun k r hk hr e=>?_) rfl a5⟩;have:=hbi _ (by omega) (by show f.first+k<D.cells.length;omega) r hr e;omega
 .obtain⟨a1,a2,a3,a4,a5,a6⟩:=hF.ok.each f hf;obtain⟨m1,ms,m2⟩:=hF.each f hf;exact⟨m1,ms,m2.Kb hF.off a5 (.inl (by omega))⟩
theorem Co (h:Good D S sf lim) (hn:Next D S sf gs sg) (hc:uv (D.wr (1 - S.slot) (bN (S.turn+1) (gs.map Fl.hd))) E):
 iM E S.slot S.turn (S.files.map Fl.hd)\/iM E (1 - S.slot) (S.turn+1) (gs.map Fl.hd):=by
 have hF:=h.fils;have hs:=h.heads.lt;have h2:=hF.two;have hl:=hF.cap;have hold: ∀ r,jl E S.slot r->r=(bN S.turn (S.files.map Fl.hd),0):=fun r hr=>by
  rcases jq (hc.sub S.slot r (by show S.slot<D.cells.length;omega) hr) with h1 | ⟨h1,_⟩
  .exact h.heads.here r h1
  .omega
 by_cases he:E.read ((1 - S.slot:Nat):Int)=(bN (S.turn+1) (gs.map Fl.hd),0)
 .right
  refine⟨by omega,fun r hr=>?_,fun r hr e t g hu hli=>?_⟩
  .rw[hc.one _ r (by show 1 - S.slot<D.cells.length;omega) hr,he]
  .rw[show 1 - (1 - S.slot)=S.slot by omega] at hr;have h3:=hold r hr;rw[h3] at hu;rw[kE (by omega) (by rw[List.length_map];exact hF.ok.count) (hF.ok.E8 hF.aG (by omega))] at hu;injection hu with hu
   injection hu with h4 h5
   omega
 .left
  refine⟨hs,hold,fun r hr e t g hu hli=>?_⟩;have hr2:=hc.one _ r (by show 1 - S.slot<D.cells.length;omega) hr;rcases jq (hc.sub (1 - S.slot) r (by show 1 - S.slot<D.cells.length;omega) hr) with h1 | ⟨_,h1 | h1⟩
  .rw[hc.len] at hli;exact h.heads.there r h1 e t g hu hli
  .rw[<-hr2] at he;exact absurd h1 he
  .rw[h1] at e;cases e
theorem yl (h:Good D S sf lim) (hn:Next D S sf gs sg) (hlim:lim+2<=1000000000) (hc:uv (D.wr (1 - S.slot) (bN (S.turn+1) (gs.map Fl.hd))) E):
 (∃ fs',cJ E=(some ⟨S.slot,S.turn,fs'⟩,0)/\fF sf S.files fs'/\Good E ⟨S.slot,S.turn,fs'⟩ (dh fs') (lim+1))\/
 (∃ fs',cJ E=(some ⟨1 - S.slot,S.turn+1,fs'⟩,0)/\fF sg gs fs'/\Good E ⟨1 - S.slot,S.turn+1,fs'⟩ (dh fs') (lim+2)):=by
 obtain⟨f1,f2⟩:=sd h hn (by omega) (b:=bN (S.turn+1) (gs.map Fl.hd)) (fk (by rw[List.length_map];exact hn.ok.count));rcases Co h hn hc with h1 | h1
 .exact .inl (found (by omega) f2 hc h1)
 .exact .inr (found (by omega) f1 hc h1)
theorem EW (h:Good D S sf lim) (hn:Next D S sf gs sg) (hlim:lim+1<=1000000000):Good (D.wr (1 - S.slot) (bN (S.turn+1) (gs.map Fl.hd))).flush.1 ⟨1 - S.slot,S.turn+1,gs⟩ (dh gs) (lim+1):=by
 obtain⟨f1,f2⟩:=sd h hn (by omega) (b:=bN (S.turn+1) (gs.map Fl.hd)) (fk (by rw[List.length_map];exact hn.ok.count));have hc:=eo f1.wf f1.off;refine⟨pj f1,?_⟩;have hF:=h.fils;have hs:=h.heads.lt;have h2:=hF.two;have hl:=hF.cap;have he:(D.wr (1 - S.slot) (bN (S.turn+1) (gs.map Fl.hd))).flush.1.read ((1 - S.slot:Nat):Int)=(bN (S.turn+1) (gs.map Fl.hd),0):=by
  rw[gL _ f1.wf f1.off _ (by show 1 - S.slot<D.cells.length;omega),oX hF.off (by omega),if_pos rfl]
 refine⟨by show 1 - S.slot<2;omega,fun r hr=>?_,fun r hr e t g hu hli=>?_⟩
 .rw[hc.one _ r (by show 1 - S.slot<D.cells.length;omega) hr,he]
 .simp only at hr;rw[show 1 - (1 - S.slot)=S.slot by omega] at hr;rcases jq (hc.sub S.slot r (by show S.slot<D.cells.length;omega) hr) with h1 | ⟨h1,_⟩
  .have h3:=h.heads.here r h1;rw[h3] at hu;rw[kE (by omega) (by rw[List.length_map];exact hF.ok.count) (hF.ok.E8 hF.aG (by omega))] at hu;injection hu with hu
   injection hu with h4 h5
   show t<S.turn+1;omega
  .omega
end
theorem ox (h:Good D S sf lim) (hlim:lim+1<=1000000000) (hc:uv D E): ∃ gs,cJ E=(some ⟨S.slot,S.turn,gs⟩,0)/\fF sf S.files gs/\Good E ⟨S.slot,S.turn,gs⟩ (dh gs) (lim+1):=
 found hlim h.fils hc (h.heads.sub hc.len h.fils.two hc.sub)
theorem om (h:Good D S sf lim) (hlim:lim+1<=1000000000): ∃ gs,cJ D=(some ⟨S.slot,S.turn,gs⟩,0)/\fF (dh S.files) S.files gs/\Good D ⟨S.slot,S.turn,gs⟩ sf (lim+1):=by
 have hf:=h.fils;have hl:=hf.cap;have hr:=od h.heads hf.off hf.two (by omega) (by rw[List.length_map];exact hf.ok.count) (hf.ok.E8 hf.aG (by omega)) hf.ok.JI;obtain⟨h1,h2⟩:=pW hf S.files (fun _ h=>h);refine⟨S.files.map fun f=>Fl.load D f.hd.fl,?_,h1,⟨⟨hf.off,hf.wf,hf.two,hf.aG,hf.ok.hd h1.hd,⟨by show S.turn<=lim+1;omega,hlim⟩,h2,hf.births⟩,?_⟩⟩
 .rw[oZ hr];simp only[List.map_map];rfl
 .show iM D S.slot S.turn _;rw[h1.hd];exact h.heads
end
def ng (p q:Nat × Nat):Prop:=p.1+p.2<=q.1\/q.1+q.2<=p.1
def mn (n:Nat) (l:List (Nat × Nat)) (bl:Int) (a:Nat):Prop:=(a:Int)+bl<=n/\ ∀ p ∈ l,(a:Int)+bl<=p.1\/p.1+p.2<=a
theorem nS {n:Nat} {bl:Int} (hb:1<=bl): ∀ (l:List (Nat × Nat)) (first:Nat),(l.Pairwise fun p q=>p.1<=q.1)->l.Pairwise ng->(∀ p ∈ l,first<=p.1/\1<=p.2/\p.1+p.2<=n)->
 ((aU n bl first l).2=true->first<=(aU n bl first l).1/\mn n l bl (aU n bl first l).1)/\(∀ a,first<=a->mn n l bl a->(aU n bl first l).2=true/\(aU n bl first l).1<=a)
 | [],first,_,_,_=>by
  unfold aU;refine⟨fun h=>⟨Nat.le_refl _,?_,by simp⟩,fun a ha hf=>⟨decide_eq_true ?_,ha⟩⟩
  .have:=of_decide_eq_true h;omega
  .have:=hf.1;omega
 | p::l,first,hs,hp,he=>by
  obtain⟨hs1,hs2⟩:=List.pairwise_cons.1 hs;obtain⟨hp1,hp2⟩:=List.pairwise_cons.1 hp;have hep:=he p (by simp);unfold aU;by_cases h:bl<=(p.1:Int) - first
  .rw[if_pos h];refine⟨fun _=>⟨Nat.le_refl _,by omega,fun q hq=>?_⟩,fun a ha _=>⟨rfl,ha⟩⟩;left
   rcases List.mem_cons.1 hq with rfl | hq
   .show (first:Int)+bl<=_;omega
   .have:=hs1 q hq;show (first:Int)+bl<=_;omega
  .rw[if_neg h];have hl: ∀ q ∈ l,p.1+p.2<=q.1/\1<=q.2/\q.1+q.2<=n:=fun q hq=>by
    have h1:=hs1 q hq;have h2:=he q (List.mem_cons_of_mem _ hq);rcases hp1 q hq with h3 | h3
    .exact⟨h3,h2.2.1,h2.2.2⟩
    .omega
   obtain⟨i1,i2⟩:=nS hb l (p.1+p.2) hs2 hp2 hl;refine⟨fun ho=>?_,fun a ha hf=>?_⟩
   .obtain⟨j1,j2,j3⟩:=i1 ho;refine⟨by omega,j2,fun q hq=>?_⟩;rcases List.mem_cons.1 hq with rfl | hq
    .exact .inr j1
    .exact j3 q hq
   .refine i2 a ?_ ⟨hf.1,fun q hq=>hf.2 q (List.mem_cons_of_mem _ hq)⟩;rcases hf.2 p (by simp) with h3 | h3
    .omega
    .exact h3
theorem nu (p:Nat × Nat): ∀ l,(uw p l).Perm (p::l)
 | []=>List.Perm.refl _
 | q::l=>by
  unfold uw;split
  .exact List.Perm.refl _
  .exact(List.Perm.cons q (nu p l)).trans (List.Perm.swap _ _ _)
theorem nX (p:Nat × Nat): ∀ l,(l.Pairwise fun p q:Nat × Nat=>p.1<=q.1)->(uw p l).Pairwise fun p q=>p.1<=q.1
 | [],_=>List.pairwise_singleton _ _
 | q::l,h=>by
  obtain⟨h1,h2⟩:=List.pairwise_cons.1 h;unfold uw;split
  .rename_i hpq;exact List.pairwise_cons.2 ⟨fun x hx=>by
    rcases List.mem_cons.1 hx with rfl | hx
    .exact hpq
    .exact Nat.le_trans hpq (h1 x hx),h⟩
  .rename_i hpq;refine List.pairwise_cons.2 ⟨fun x hx=>?_,nX p l h2⟩;rcases List.mem_cons.1 ((nu p l).mem_iff.1 hx) with rfl | hx
   .omega
   .exact h1 x hx
theorem jO: ∀ l,(di l).Perm l
 | []=>List.Perm.refl _
 | p::l=>(nu p (di l)).trans (List.Perm.cons p (jO l))
theorem jK: ∀ l,(di l).Pairwise fun p q=>p.1<=q.1
 | []=>List.Pairwise.nil
 | p::l=>nX p _ (jK l)
theorem na (p:Fl): ∀ l,(xK p l).Perm (p::l)
 | []=>List.Perm.refl _
 | q::l=>by
  unfold xK;split
  .exact List.Perm.refl _
  .exact(List.Perm.cons q (na p l)).trans (List.Perm.swap _ _ _)
theorem nQ (p:Fl): ∀ l,(l.Pairwise fun p q:Fl=>p.num<=q.num)->(xK p l).Pairwise fun p q=>p.num<=q.num
 | [],_=>List.pairwise_singleton _ _
 | q::l,h=>by
  obtain⟨h1,h2⟩:=List.pairwise_cons.1 h;unfold xK;split
  .rename_i hpq;exact List.pairwise_cons.2 ⟨fun x hx=>by
    rcases List.mem_cons.1 hx with rfl | hx
    .exact hpq
    .exact Nat.le_trans hpq (h1 x hx),h⟩
  .rename_i hpq;refine List.pairwise_cons.2 ⟨fun x hx=>?_,nQ p l h2⟩;rcases List.mem_cons.1 ((na p l).mem_iff.1 hx) with rfl | hx
   .omega
   .exact h1 x hx
theorem jz: ∀ l,(dV l).Perm l
 | []=>List.Perm.refl _
 | p::l=>(na p (dV l)).trans (List.Perm.cons p (jz l))
theorem mH: ∀ l,(dV l).Pairwise fun p q=>p.num<=q.num
 | []=>List.Pairwise.nil
 | p::l=>nQ p _ (mH l)
theorem vj {p q:Nat × Nat} (h:ng p q):ng q p:=h.symm
theorem pT {l m:List (Nat × Nat)} (h:l.Perm m) (hp:l.Pairwise ng):m.Pairwise ng:=(h.pairwise_iff (fun h=>vj h)).1 hp
structure ku (n:Nat) (l:List (Nat × Nat)):Prop where
 apart:l.Pairwise ng
 each: ∀ p ∈ l,2<=p.1/\1<=p.2/\p.1+p.2<=n
theorem pX {n:Nat} {bl:Int} (hb:1<=bl) {l:List (Nat × Nat)} (h:ku n l):
 ((aU n bl 2 (di l)).2=true->2<=(aU n bl 2 (di l)).1/\mn n l bl (aU n bl 2 (di l)).1)/\(∀ a,2<=a->mn n l bl a->(aU n bl 2 (di l)).2=true/\(aU n bl 2 (di l)).1<=a):=by
 have hp:=jO l;have h9:=nS (n:=n) hb (di l) 2 (jK l) (pT hp.symm h.apart) (fun p hq=>h.each p (hp.mem_iff.1 hq));have hf: ∀ a,mn n (di l) bl a↔mn n l bl a:=fun a=>⟨fun ⟨h1,h2⟩=>⟨h1,fun q hq=>h2 q (hp.mem_iff.2 hq)⟩,fun ⟨h1,h2⟩=>⟨h1,fun q hq=>h2 q (hp.mem_iff.1 hq)⟩⟩
 exact⟨fun ho=>⟨(h9.1 ho).1,(hf _).1 (h9.1 ho).2⟩,fun a ha hfa=>h9.2 a ha ((hf a).2 hfa)⟩
theorem ku.snoc {n:Nat} {l:List (Nat × Nat)} (h:ku n l) {a:Nat} {bl:Int} (hb:1<=bl) (h2:2<=a) (hf:mn n l bl a):ku n (l++[(a,bl.toNat)]):=by
 refine⟨List.pairwise_append.2 ⟨h.apart,List.pairwise_singleton _ _,fun p hp q hq=>?_⟩,fun p hp=>?_⟩
 .rw[List.mem_singleton] at hq;subst hq;rcases hf.2 p hp with h3 | h3
  .right;show a+bl.toNat<=p.1;omega
  .exact .inl h3
 .rcases List.mem_append.1 hp with hp | hp
  .exact h.each p hp
  .rw[List.mem_singleton] at hp;subst hp;have:=hf.1;exact⟨h2,by show 1<=bl.toNat;omega,by show a+bl.toNat<=n;omega⟩
theorem sT {n turn:Nat}: ∀ (add:List Fi) (dp:List (Nat × Nat)) (fs gs:List Fl),dW n turn add dp fs=some gs->(∀ x ∈ add,1<=x.blocks)->ku n dp->
 ∃ news:List Fl,gs=fs++news/\news.map (·.num)=add.map (·.num.toNat)/\(∀ f ∈ news,f=⟨f.num,f.first,f.blocks,turn,1,[]⟩)/\ku n (dp++news.map fun f=>(f.first,f.blocks))/\news.map (·.blocks)=add.map (·.blocks.toNat)
 | [],dp,fs,gs,h,_,hl=>by
  unfold dW at h;injection h with h
  exact⟨[],by simp[h],rfl,by simp,by simpa using hl,rfl⟩
 | x::add,dp,fs,gs,h,hb,hl=>by
  unfold dW at h;have hx:=hb x (by simp);have hp:=(pX hx hl).1;obtain⟨a,o,e⟩: ∃ a o,aU n x.blocks 2 (di dp)=(a,o):=⟨_,_,rfl⟩;rw[e] at h hp
  cases o with
  | false=>cases h
  | true=>
   obtain⟨p1,p2⟩:=hp rfl;have hl2:=hl.snoc hx p1 p2;obtain⟨news,h1,h2,h3,h4,h5⟩:=sT add _ _ gs h (fun y hy=>hb y (List.mem_cons_of_mem _ hy)) hl2;refine⟨⟨x.num.toNat,a,x.blocks.toNat,turn,1,[]⟩::news,by rw[h1,List.append_assoc];rfl,by rw[List.map_cons,List.map_cons,h2],fun f hf=>?_,by rw[List.map_cons];simpa using h4,by rw[List.map_cons,List.map_cons,h5]⟩;rcases List.mem_cons.1 hf with rfl | hf
   .rfl
   .exact h3 f hf
theorem se {S:aK} {n:Int} (h:(S.find n).isSome=true): ∃ f ∈ S.files,(f.num:Int)=n:=by
 unfold aK.find at h;rw[List.find?_isSome] at h;obtain⟨f,h1,h2⟩:=h;exact⟨f,h1,by simpa using h2⟩
theorem CT {S:aK} {n:Int} (h:(S.find n).isSome=false): ∀ f ∈ S.files,(f.num:Int)≠n:=fun f hf e=>by
 have:(S.find n).isSome=true:=by
  unfold aK.find;rw[List.find?_isSome];exact⟨f,hf,by simpa using e⟩
 rw[h] at this;cases this
theorem fD {S:aK}: ∀ (l ahead:List Int),S.dJ ahead l=true↔(∀ n ∈ l,(S.find n).isSome=true/\n ∉ ahead)/\l.Nodup
 | [],ahead=>by simp[aK.dJ]
 | n::l,ahead=>by
  unfold aK.dJ;simp only[Bool.and_eq_true,fD l (ahead++[n]),List.nodup_cons,List.mem_cons,Bool.not_eq_true',List.contains_eq_mem,decide_eq_false_iff_not];constructor
  .rintro ⟨⟨h1,h2⟩,h3,h4⟩;refine⟨?_,?_,h4⟩
   .rintro m (rfl | hm)
    .exact⟨h1,h2⟩
    .have:=h3 m hm;simp only[List.mem_append,List.mem_singleton,not_or] at this;exact⟨this.1,this.2.1⟩
   .intro hm;have:=(h3 n hm).2;simp at this
  .rintro ⟨h1,h2,h3⟩;refine⟨⟨(h1 n (.inl rfl)).1,(h1 n (.inl rfl)).2⟩,fun m hm=>⟨(h1 m (.inr hm)).1,?_⟩,h3⟩;simp only[List.mem_append,List.mem_singleton,not_or];exact⟨(h1 m (.inr hm)).2,fun e=>h2 (e ▸ hm)⟩
theorem gG {S:aK} {drop:List Int}: ∀ (l:List Fi) (seen:List Int),S.eI drop seen l=true↔(∀ x ∈ l,(1<=x.num/\x.num<=2147483647/\1<=x.blocks)/\x.num ∉ seen/\((S.find x.num).isSome=false\/x.num ∈ drop))/\(l.map (·.num)).Nodup
 | [],seen=>by simp[aK.eI]
 | n::l,seen=>by
  unfold aK.eI;simp only[Bool.and_eq_true,Bool.or_eq_true,gG l (seen++[n.num]),List.map_cons,List.nodup_cons,List.mem_cons,Bool.not_eq_true',List.contains_eq_mem,decide_eq_false_iff_not,decide_eq_true_eq];constructor
  .rintro ⟨⟨⟨h1,h2⟩,h3⟩,h4,h5⟩;refine⟨?_,?_,h5⟩
   .rintro m (rfl | hm)
    .exact⟨h1,h2,h3⟩
    .obtain⟨a,b,c⟩:=h4 m hm;simp only[List.mem_append,List.mem_singleton,not_or] at b;exact⟨a,b.1,c⟩
   .intro hm;obtain⟨y,hy,e⟩:=List.mem_map.1 hm;have:=(h4 y hy).2.1;simp only[List.mem_append,List.mem_singleton,not_or] at this;exact this.2 e
  .rintro ⟨h1,h2,h3⟩;refine⟨⟨⟨(h1 n (.inl rfl)).1,(h1 n (.inl rfl)).2.1⟩,(h1 n (.inl rfl)).2.2⟩,fun m hm=>⟨(h1 m (.inr hm)).1,?_,(h1 m (.inr hm)).2.2⟩,h3⟩;simp only[List.mem_append,List.mem_singleton,not_or];exact⟨(h1 m (.inr hm)).2.1,fun e=>h2 (List.mem_map.2 ⟨m,hm,e⟩)⟩
theorem jQ: ∀ (fs:List Fl) (drop:List Int),(fs.Pairwise fun a b=>a.num<b.num)->drop.Nodup->(∀ n ∈ drop, ∃ f ∈ fs,(f.num:Int)=n)->(fs.filter fun f=> !drop.contains (f.num:Int)).length+drop.length=fs.length
 | [],drop,_,_,hd=>by
  cases drop with
  | nil=>rfl
  | cons n l=>obtain⟨f,hf,_⟩:=hd n (by simp);cases hf
 | f::fs,drop,hp,hn,hd=>by
  obtain⟨hp1,hp2⟩:=List.pairwise_cons.1 hp;by_cases hm:(f.num:Int) ∈ drop
  .have ih:=jQ fs (drop.erase (f.num:Int)) hp2 (hn.erase _) (fun n hn2=>by
    have h1:=(List.Nodup.mem_erase_iff hn).1 hn2;obtain⟨g,hg,e⟩:=hd n h1.2;rcases List.mem_cons.1 hg with rfl | hg
    .exact absurd e.symm h1.1
    .exact⟨g,hg,e⟩)
   have hl:=List.length_erase_of_mem hm;have hpos:=List.length_pos_of_mem hm;have he:(fs.filter fun g=> !(drop.erase (f.num:Int)).contains (g.num:Int))=fs.filter fun g=> !drop.contains (g.num:Int):=by
    apply List.filter_congr;intro g hg;have h1:=hp1 g hg;have:((g.num:Int) ∈ drop.erase (f.num:Int))↔(g.num:Int) ∈ drop:=by
     rw[List.Nodup.mem_erase_iff hn];exact⟨fun h=>h.2,fun h=>⟨by omega,h⟩⟩
    simp only[List.contains_eq_mem,this]
   rw[he] at ih;rw[List.filter_cons,if_neg (by simp[hm]),List.length_cons];omega
  .have ih:=jQ fs drop hp2 hn (fun n hn2=>by
    obtain⟨g,hg,e⟩:=hd n hn2;rcases List.mem_cons.1 hg with rfl | hg
    .exact absurd (e ▸ hn2) hm
    .exact⟨g,hg,e⟩)
   rw[List.filter_cons,if_pos (by simp[hm]),List.length_cons,List.length_cons];omega
theorem nI.Is {n turn:Nat} {fs:List Fl} (h:nI n turn fs):ku n (fs.map fun f=>(f.first,f.blocks)):=by
 refine⟨?_,fun p hp=>?_⟩
 .rw[List.pairwise_map];exact h.apart
 .obtain⟨f,hf,rfl⟩:=List.mem_map.1 hp;obtain⟨h1,h2,h3,h4,h5,h6⟩:=h.each f hf;exact⟨h3,h4,h5⟩
theorem rX {l:List Fl} (h:l.Pairwise fun p q=>p.num<=q.num) (hn:(l.map (·.num)).Nodup):l.Pairwise fun p q=>p.num<q.num:=by
 have h2:l.Pairwise fun p q=>p.num≠q.num:=by
  have:=List.pairwise_map.1 hn;exact this
 exact(h.and h2).imp fun ⟨a,b⟩=>by omega
theorem AQ {D:Dk} {S:aK} {sf:Nat->Nat} {lim:Nat} (h:Good D S sf lim) {add:List Fi} {drop:List Int} (hm:S.may add drop=true) (hc:(S.files.length:Int)+add.length - drop.length<=24) {fs:List Fl}
 (ha:dW D.cells.length (S.turn+1) add S.dp (S.files.filter fun f=> !drop.contains (f.num:Int))=some fs):
 Next D S sf (dV fs) (fun num=>if (num:Int) ∈ add.map (·.num) then 0 else sf num):=by
 unfold aK.may at hm;obtain⟨hm1,hm2⟩:=(Bool.and_eq_true _ _).mp hm |>fun x=>(x:_/\_)
 obtain⟨d1,d2⟩:=(fD drop []).1 hm1;obtain⟨a1,a2⟩:=(gG add []).1 hm2;have hok:=h.fils.ok;obtain⟨news,rfl,n1,n2,n3,n4⟩:=sT add S.dp _ fs ha (fun x hx=>(a1 x hx).1.2.2) hok.Is;obtain⟨K,hK⟩: ∃ K,K=S.files.filter fun f=> !drop.contains (f.num:Int):=⟨_,rfl⟩;have hKm: ∀ f ∈ K,f ∈ S.files/\(f.num:Int) ∉ drop:=fun f hf=>by
  rw[hK,List.mem_filter] at hf;exact⟨hf.1,by simpa using hf.2⟩
 have hcnt:=jQ S.files drop hok.nums d2 (fun n hn=>se (d1 n hn).1);rw[<-hK] at hcnt ⊢;have hnl:news.length=add.length:=by have:=congrArg List.length n1;simpa using this
 have hnew: ∀ f ∈ news, ∃ x ∈ add,f.num=x.num.toNat/\(f.num:Int)=x.num:=fun f hf=>by
  have:f.num ∈ news.map (·.num):=List.mem_map_of_mem hf;rw[n1] at this;obtain⟨x,hx,e⟩:=List.mem_map.1 this;have h9:=(a1 x hx).1.1;exact⟨x,hx,e.symm,by omega⟩
 have hperm:=jz (K++news);have hKS:K.Sublist S.files:=by rw[hK];exact List.filter_sublist
 have hKn:K.Pairwise fun a b=>a.num<b.num:=hok.nums.sublist hKS;have hnd:((K++news).map (·.num)).Nodup:=by
  rw[List.map_append];refine List.nodup_append.2 ⟨?_,?_,?_⟩
  .exact List.pairwise_map.2 (hKn.imp fun h=>by omega)
  .rw[n1];refine List.pairwise_map.2 ?_;have h8:=List.pairwise_map.1 a2;refine List.Pairwise.imp_of_mem (fun {x y} hx hy hne=>?_) h8;have h6:=(a1 x hx).1.1;have h7:=(a1 y hy).1.1;omega
  .intro x hx y hy e;subst e;obtain⟨f,hf,e1⟩:=List.mem_map.1 hx;obtain⟨g,hg,e2⟩:=List.mem_map.1 hy;obtain⟨z,hz,_,e3⟩:=hnew g hg;obtain⟨k1,k2⟩:=hKm f hf;have hfz:(f.num:Int)=z.num:=by omega
   rcases(a1 z hz).2.2 with q | q
   .exact CT q f k1 hfz
   .exact k2 (hfz ▸ q)
 have hlie:ku D.cells.length ((K++news).map fun f=>(f.first,f.blocks)):=by
  rw[List.map_append];refine⟨n3.apart.sublist (List.Sublist.append ?_ (List.Sublist.refl _)),fun p hp=>n3.each p ?_⟩
  .exact hKS.map _
  .rcases List.mem_append.1 hp with q | q
   .exact List.mem_append_left _ ((hKS.map _).mem q)
   .exact List.mem_append_right _ q
 refine⟨⟨?_,?_,?_,fun f hf=>?_⟩,fun f hf=>?_⟩
 .rw[hperm.length_eq,List.length_append];omega
 .exact rX (mH _) ((hperm.map _).nodup_iff.2 hnd)
 .have h8:(K++news).Pairwise fun a b=>a.first+a.blocks<=b.first\/b.first+b.blocks<=a.first:=List.pairwise_map.1 hlie.apart;exact(hperm.symm.pairwise_iff (fun h=>h.symm)).1 h8
 .have hf2:=hperm.mem_iff.1 hf;have h3:=hlie.each (f.first,f.blocks) (List.mem_map_of_mem hf2);rcases List.mem_append.1 hf2 with q | q
  .obtain⟨b1,b2,b3,b4,b5,b6⟩:=hok.each f (hKm f q).1;exact⟨b1,b2,b3,b4,b5,by omega⟩
  .obtain⟨z,hz,e1,e2⟩:=hnew f q;have h9:=(a1 z hz).1;have h10:=congrArg Fl.birth (n2 f q);simp only at h10;exact⟨by omega,by omega,h3.1,h3.2.1,h3.2.2,by omega⟩
 .have hf2:=hperm.mem_iff.1 hf;rcases List.mem_append.1 hf2 with q | q
  .left
   refine⟨(hKm f q).1,?_⟩;split
   .exact Nat.zero_le _
   .exact Nat.le_refl _
  .right
   refine⟨n2 f q,?_⟩;obtain⟨z,hz,e1,e2⟩:=hnew f q;rw[if_pos];rw[e2];exact List.mem_map_of_mem hz
section
variable {D:Dk} {S:aK} {sf:Nat->Nat} {lim:Nat}
theorem put_eq (h:Good D S sf lim) {fs:List Fl} (hn:fs.length<=24):
 (D.armed=1->S.put fs D=(S,D.dC (1 - S.slot) (bN (S.turn+1) (fs.map Fl.hd)),21))/\(D.armed≠1->S.put fs D=(⟨1 - S.slot,S.turn+1,fs⟩,(D.wr (1 - S.slot) (bN (S.turn+1) (fs.map Fl.hd))).flush.1,0)):=by
 have hs:=h.heads.lt;have h2:=h.fils.two;have hl:=h.fils.cap;have hi:(S.slot+1) % 2=1 - S.slot:=by omega
 have ht:(S.turn+1) % 18446744073709551616=S.turn+1:=Nat.mod_eq_of_lt (by omega);have hw:=lS D (1 - S.slot) (bN (S.turn+1) (fs.map Fl.hd)) h.fils.off (by omega) (fk (by rw[List.length_map];exact hn));unfold aK.put;simp only[hi,ht,hw];constructor
 .intro ha;rw[if_pos (by rw[if_pos ha];simp),if_pos ha]
 .intro ha;have e:D.dC (1 - S.slot) (bN (S.turn+1) (fs.map Fl.hd))=D.wr (1 - S.slot) (bN (S.turn+1) (fs.map Fl.hd)):=by
   unfold Dk.wr Dk.dC;simp only[if_neg ha,h.fils.off]
  rw[if_neg (by rw[if_neg ha];simp),e];have hf:=dg (D.wr (1 - S.slot) (bN (S.turn+1) (fs.map Fl.hd))) rfl;rw[if_neg (by rw[hf];simp)]
theorem pH (D:Dk) (i:Nat) (b:List UInt8) (keep:List Bool) (torn bytes:Int):(D.dC i b).bZ keep torn bytes=(D.wr i b).bZ keep torn bytes:=rfl
end
end Go.Proofs.YtmbaiglpgaoogaaGreat
