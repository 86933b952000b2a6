/- Joined, as they were built one by one: Blk5 ExtP AppZ OwnR Got RowCut. -/
import Derived.Test.YtmbaiglpgaoogaaGreatV08
import Derived.Test.YtmbaiglpgaoogaaGreatV09
set_option maxHeartbeats 16000000
namespace Go.Proofs.YtmbaiglpgaoogaaGreat
open Go.RowKit
set_option linter.unusedVariables false
set_option maxRecDepth 100000
def lay (cells:List (List UInt8 × Bool)) (p:Nat × List UInt8):List (List UInt8 × Bool):=cells.set p.1 (p.2,false)
def Dk.flush (D:Dk):Dk × Int:=if D.off then (D,21) else ({ D with cells:=D.pend.foldl lay D.cells,pend:=[] },0)
def layC (cs:List (Slc × Bool)) (p:Nat × Slc):List (Slc × Bool):=cs.set p.1 (p.2,false)
theorem lay_layC (cs:List (Slc × Bool)) (p:Nat × Slc):(layC cs p).map (fun x=>(x.1.2.2,x.2))=lay (cs.map fun x=>(x.1.2.2,x.2)) (p.1,p.2.2.2):=by
 unfold layC lay;rw[List.map_set]
theorem lay_all (cs:List (Slc × Bool)): ∀ ps:List (Nat × Slc),(ps.foldl layC cs).map (fun x=>(x.1.2.2,x.2))=(ps.map fun x=>(x.1,x.2.2.2)).foldl lay (cs.map fun x=>(x.1.2.2,x.2)):=by
 intro ps
 induction ps generalizing cs with
 | nil=>rfl
 | cons p ps ih=>rw[List.foldl_cons,ih,lay_layC];rfl
structure Cok (cs0 cs:List (Slc × Bool)) (ps:List (Nat × Slc)):Prop where
 len:cs.length=cs0.length
 fitc: ∀ x ∈ cs,fit x.1/\(x.1.2.2=[]\/x.1.2.2.length=512)
theorem Cok.put {cs0 cs:List (Slc × Bool)} {ps:List (Nat × Slc)} (h:Cok cs0 cs ps) {a:Nat} {x:Slc × Bool} (hx:fit x.1/\(x.1.2.2=[]\/x.1.2.2.length=512)):Cok cs0 (cs.set a x) ps:=
 ⟨by rw[List.length_set];exact h.len,fun y hy=>(List.mem_or_eq_of_mem_set hy).elim (h.fitc y) (fun e=>e ▸ hx)⟩
section
variable {w0 w:World} {F:SP} {d C cc M nm armed writes:Nat} {vp:Value} {cs:List (Slc × Bool)} {ps:List (Nat × Slc)} {off:Bool} {D:Dk}
theorem Sat.rol_keep {rs rs':List Slc} (h:Sat w0 (RoL rs*F) w) (hs: ∀ r ∈ rs',r ∈ rs\/r.2.2=[]):Sat w0 (RoL rs'*F) w:=
 h.mono fun q ⟨b,f,k1,k2,k3,k4⟩=>⟨b,f,k1,k2,⟨k3.1,fun r hr hne=>(hs r hr).elim (fun hr=>k3.2 r hr hne) (fun e=>absurd e hne)⟩,k4⟩
theorem Sat.setCellD (h:Sat w0 (DiskC d C cc M nm vp cs ps armed writes off*F) w) (a:Nat) (x:Slc × Bool) (ha:a<cs.length) (hx:x.1 ∈ ps.map (·.2)\/x.1.2.2=[]):
  Sat w0 (DiskC d C cc M nm vp (cs.set a x) ps armed writes off*F) ((w.setCell ⟨C,a*2,none⟩ (slv x.1)).setCell ⟨C,a*2+1,none⟩ (.bool x.2)):=by
 have h1:=((h.of disk_d).up2.row_setj (j:=a*2) (slv x.1)).row_setj (j:=a*2+1) (.bool x.2);have e2:=flat2_set (f:=cellV) (fun _=>rfl) cs a x _ _ rfl ha;rw[List.setIfInBounds_toArray,List.setIfInBounds_toArray] at e2;have e3:((cs.flatMap cellV).set (a*2) (slv x.1)).set (a*2+1) (.bool x.2)=(cs.set a x).flatMap cellV:=by simpa using congrArg Array.toList e2
 rw[e3] at h1;have h2:=h1.up5;have h3:=h2.rol_keep (rs':=(cs.set a x).map (·.1)++ps.map (·.2)) fun r hr=>by
  rcases List.mem_append.1 hr with hr | hr
  .obtain⟨y,hy,rfl⟩:=List.mem_map.1 hr;rcases List.mem_or_eq_of_mem_set hy with hy | hy
   .exact .inl (List.mem_append_left _ (List.mem_map_of_mem hy))
   .subst hy;exact hx.imp_left (fun hx=>List.mem_append_right _ hx)
  .exact .inl (List.mem_append_right _ hr)
 refine(h3.dn5.up2).of ?_;have e:cs.length=(cs.set a x).length:=(List.length_set ..).symm;rw[e];exact disk_d.symm
end
theorem flush_any (d:Nat) (D:Dk) (w0 w:World) (F:SP) (h:Sat w0 (Disk d D*F) w) (hw2:D.pend.length<=1000000000):
  Calls Tryz.prog 102 #[.pointer (some ⟨d,0,none⟩)] w fun e w'=>e = .returned (.int .i64 D.flush.2)/\Sat w0 (Disk d D.flush.1*F) w':=by
 have HH:=ah h;by_cases ho:D.off=true
 .have HP:Hid (D.flush=(D,21)):=by unfold Hid Dk.flush;rw[if_pos ho]
  obtain⟨C,cc,M,nm,vp,cs,ps,hr,hn,hs⟩:=h.disk;have hc5:=hs.head.c5;rw[ho] at hc5;clear ho hr hn hs h;go_enter Tryz.func102, Tryz.ntmps102;go_wp2_with fail;go_ret;refine⟨by rw[HP.o];rfl,?_⟩;rw[HP.o];exact HH.o
 .have ho':D.off=false:=by simpa using ho
  have HP:Hid (D.flush=({ D with cells:=D.pend.foldl lay D.cells,pend:=[] },0)):=by unfold Hid Dk.flush;rw[if_neg ho]
  obtain⟨C,cc,M,nm,vp,cs,ps,hr,hn,hs⟩:=h.disk;have hc5:=hs.head.c5;have hc1:=hs.head.c1;rw[ho'] at hc5;have hpl:D.pend.length=ps.length:=by rw[hr.pend];simp
  rw[hpl] at hw2;obtain⟨A1,c1,rfl,hle,hmx⟩:=(hs.of disk_d).up3.row_sl;have HS:=ah hs;have HR:=ah hr;have HN:=ah hn;unfold maxLen at hmx;clear ho ho' hr hn hs h hpl;go_enter Tryz.func102, Tryz.ntmps102;go_wp2_with fail;go_loopw [14] (fun i wr=> ∃ k:Nat,k<=ps.length/\i = .int .i64 k/\Hid (Cok cs ((ps.take k).foldl layC cs) ps/\Sat w0 (DiskC d C cc M nm (.slice A1 ps.length c1) ((ps.take k).foldl layC cs) ps D.armed D.writes D.off*F) wr)) (fun i _=>ps.length - (intOf i).toNat)
  case atStart=>exact⟨0,by omega,rfl,⟨rfl,HR.o.fitc⟩,HS.o⟩
  case round=>
   obtain⟨k,hk,rfl,HD⟩:=hrel;by_cases hlt:k<ps.length
   .obtain⟨g,rfl,hg⟩:=(HD.o.2.of disk_d).up3.row_at (by omega);have q0:=hg (k*2) (by rw[flat2_len (fun _=>rfl)];omega);have q1:=hg (k*2+1) (by rw[flat2_len (fun _=>rfl)];omega);have e0:(ps.flatMap pendV)[k*2]'(by rw[flat2_len (fun _=>rfl)];omega) = .int .i64 ps[k].1:=by
     have:=flat2 (f:=pendV) (fun _=>rfl) ps k 0 hlt (by omega);exact Option.some.inj ((List.getElem?_eq_getElem _).symm.trans this)
    have e1:(ps.flatMap pendV)[k*2+1]'(by rw[flat2_len (fun _=>rfl)];omega)=slv ps[k].2:=by
     have:=flat2 (f:=pendV) (fun _=>rfl) ps k 1 hlt (by omega);exact Option.some.inj ((List.getElem?_eq_getElem _).symm.trans this)
    rw[e0] at q0;rw[e1] at q1;have hfp:=HR.o.fitp ps[k] (List.getElem_mem hlt);have HT:Hid ((ps.take (k+1)).foldl layC cs=layC ((ps.take k).foldl layC cs) ps[k]):=by
     rw[List.take_succ_eq_append_getElem hlt,List.foldl_append];rfl
    have HM:=ah (List.getElem_mem hlt);have hat:ps[k].1<cs.length:=hfp.2.2;have HF:=ah hfp;clear hg e0 e1 hfp;generalize ps[k]=p at*
    obtain⟨a,As,cz,ls⟩:=p;simp only[slv] at q0 q1 hat;generalize (ps.take k).foldl layC cs=cs1 at*
    have h2:=HD.o.2.allocPt 140 #[.int .i64 a,.slice As ls.length cz];have hlc:cs1.length=cs.length:=HD.o.1.len;have HLc:=ah hlc;have HS2:=ah h2;clear h2;rw[<-hlc] at hat;clear hlc;go_wp2_with fail;obtain⟨w2,hw2'⟩: ∃ w2,w2=wr.alloc (.cells #[.int .i64 a,.slice As ls.length cz] 140):=⟨_,rfl⟩;obtain⟨b,hb⟩: ∃ b,b=wr.heap.size:=⟨_,rfl⟩;rw[<-hw2', <-hb] at HS2;rw[<-hw2', <-hb];clear hw2' hb q0 q1;have q2:=HS2.o.cell 0;have q3:=HS2.o.cell 1;have q4:=HS2.o.right.head.c0;have q5:=HS2.o.right.cellsFree (a*2);have q6:=HS2.o.right.cellsFree (a*2+1);obtain⟨q7,q8⟩:=HS2.o.right.cellsAt hat;go_region
    go_wp2_with fail;go_roundw
    case rel=>
     refine⟨k+1,by omega,by go_num,?_⟩;rw[HT.o];exact⟨HD.o.1.put ⟨HF.o.1,.inr HF.o.2.1⟩,(HS2.o.right.setCellD a ((As,cz,ls),false) hat (.inl (List.mem_map_of_mem (f:=Prod.snd) HM.o))).drew⟩
    case measure=>simp[intOf];omega
   .have ht:ps.take k=ps:=List.take_of_length_le (by omega);rw[ht] at HD;clear ht;have HE:Hid (Sat w0 (Disk d { D with cells:=D.pend.foldl lay D.cells }*F) wr):=by
     refine Sat.diskI (D:={ D with cells:=D.pend.foldl lay D.cells }) HD.o.2 ⟨?_,HR.o.pend,HD.o.1.fitc,?_,?_,?_⟩ HN.o
     .rw[HR.o.cells,HR.o.pend,lay_all]
     .rw[HD.o.1.len];exact HR.o.fitp
     .rw[HD.o.1.len];exact HR.o.two
     .rw[HD.o.1.len];exact HR.o.most
    go_wp2_with fail;refine(settled_any d _ w0 wr F HE.o).mono ?_;rintro e w' ⟨rfl,hs⟩;have HG:=ah hs;clear hs;go_wp2_with fail;go_ret;refine⟨by rw[HP.o];rfl,?_⟩;rw[HP.o];exact HG.o
structure Fl where
 num:Nat
 first:Nat
 blocks:Nat
 birth:Nat
 life:Nat
 frames:List (List UInt8)
structure Spc where
 slot:Nat
 turn:Nat
 files:List Fl
structure Hd where
 num:Nat
 first:Nat
 blocks:Nat
 birth:Nat
def Fl.hd (f:Fl):Hd:=⟨f.num,f.first,f.blocks,f.birth⟩
def Hd.fl (h:Hd):Fl:=⟨h.num,h.first,h.blocks,h.birth,0,[]⟩
def markX:List UInt8:=[84,68,88,49]
def hdB (h:Hd):List UInt8:=putB h.num 4++(putB h.first 4++(putB h.blocks 4++putB h.birth 8))
def headB (turn:Nat) (hs:List Hd):List UInt8:=markX++(putB turn 8++(putB hs.length 1++(hs.map hdB).flatten))
def padB (l:List UInt8):List UInt8:=l++List.replicate (512 - l.length) 0
def sealB (turn:Nat) (hs:List Hd):List UInt8:=padB (headB turn hs)
def hdOf (r:List UInt8):Hd:=⟨getN (r.take 4),getN ((r.drop 4).take 4),getN ((r.drop 8).take 4),getN ((r.drop 12).take 8)⟩
def rowsH:Nat->List UInt8->List Hd
 | 0,_=>[]
 | n+1,r=>hdOf r::rowsH n (r.drop 20)
def unsealB (b:List UInt8):Option (Nat × List Hd):=
 if b.take 4=markX/\(b.getD 12 0).toNat<=24 then some (getN ((b.drop 4).take 8),rowsH (b.getD 12 0).toNat (b.drop 13)) else none
def liesH (n:Nat) (hs:List Hd):Bool:=hs.all fun h=>decide (2<=h.first/\1<=h.blocks/\(h.blocks:Int)<=(n:Int) - h.first)
def newerH (s:Option Spc) (turn:Nat):Bool:=match s with | none=>true | some x=>decide (x.turn<turn)
def bestH (D:Dk) (s:Option Spc) (i:Nat):Option Spc:=
 if (D.read i).2≠0 then s else
 match unsealB (D.read i).1 with
 | none=>s
 | some (turn,hs)=>if liesH D.cells.length hs=true/\newerH s turn=true then some ⟨i,turn,hs.map Hd.fl⟩ else s
def readX (D:Dk):Option Spc × Int:=if D.off then (none,21) else (bestH D (bestH D none 0) 1,0)
def frameB (birth life:Nat) (p:List UInt8):List UInt8:=padB (putB birth 8++(putB life 8++(putB p.length 2++p)))
structure LdS where
 over:Bool
 last:Nat
 most:Nat
 frames:List (List UInt8)
def goodB (birth:Nat) (b:List UInt8):Bool:=decide (getN (b.take 8)=birth/\getN ((b.drop 16).take 2)<=480)
def lifeB (b:List UInt8):Nat:=getN ((b.drop 8).take 8)
def bodyX (b:List UInt8):List UInt8:=(b.drop 18).take (getN ((b.drop 16).take 2))
def ldStep (birth:Nat) (r:List UInt8 × Int) (s:LdS):LdS:=
 if r.2≠0 then { s with over:=true } else
 if goodB birth r.1=false then { s with over:=true } else
 if s.over=true\/lifeB r.1<s.last then ⟨true,s.last,max s.most (lifeB r.1),s.frames⟩ else
 ⟨false,lifeB r.1,max s.most (lifeB r.1),s.frames++[bodyX r.1]⟩
def ldRun (D:Dk) (birth first:Nat):Nat->LdS
 | 0=>⟨false,0,0,[]⟩
 | k+1=>ldStep birth (D.read ((first+k:Nat):Int)) (ldRun D birth first k)
def Fl.load (D:Dk) (f:Fl):Fl:={ f with life:=((ldRun D f.birth f.first f.blocks).most+1) % 18446744073709551616,frames:=f.frames++(ldRun D f.birth f.first f.blocks).frames }
def openX (D:Dk):Option Spc × Int:=
 if (readX D).2=21 then (none,21) else
 match (readX D).1 with
 | none=>(none,30)
 | some s=>(some { s with files:=s.files.map (Fl.load D) },0)
def Spc.find (S:Spc) (num:Int):Option Fl:=S.files.find? fun f=>((f.num:Nat):Int)==num
def Spc.put (S:Spc) (fs:List Fl) (D:Dk):Spc × Dk × Int:=
 let r:=D.write (((S.slot+1) % 2:Nat):Int) (sealB ((S.turn+1) % 18446744073709551616) (fs.map Fl.hd))
 if r.2≠0 then (S,r.1,r.2) else
 let q:=r.1.flush
 if q.2≠0 then (S,q.1,q.2) else (⟨(S.slot+1) % 2,(S.turn+1) % 18446744073709551616,fs⟩,q.1,0)
def formatX (D:Dk):Dk × Int:=
 if (readX D).2=21 then (D,21) else (((((readX D).1).getD ⟨0,0,[]⟩).put [] D).2.1,((((readX D).1).getD ⟨0,0,[]⟩).put [] D).2.2)
def Spc.append (S:Spc) (num:Int) (p:List UInt8) (D:Dk):Spc × Dk × Int:=
 match S.find num with
 | none=>(S,D,34)
 | some f=>
  if 480<p.length then (S,D,35) else
  if f.frames.length=f.blocks then (S,D,36) else
  let r:=D.write ((f.first+f.frames.length:Nat):Int) (frameB f.birth f.life p)
  if r.2≠0 then (S,r.1,r.2) else ({ S with files:=S.files.map fun g=>if g.num=f.num then { g with frames:=g.frames++[p] } else g },r.1,0)
structure Fi where
 num:Int
 first:Int
 blocks:Int
def Spc.mayDrop (S:Spc):List Int->List Int->Bool
 | _,[]=>true
 | ahead,n::l=>(S.find n).isSome && !ahead.contains n && S.mayDrop (ahead++[n]) l
def Spc.mayAdd (S:Spc) (drop:List Int):List Int->List Fi->Bool
 | _,[]=>true
 | seen,f::l=>decide (1<=f.num/\f.num<=2147483647/\1<=f.blocks) && !seen.contains f.num && (!(S.find f.num).isSome || drop.contains f.num) && S.mayAdd drop (seen++[f.num]) l
def Spc.may (S:Spc) (add:List Fi) (drop:List Int):Bool:=S.mayDrop [] drop && S.mayAdd drop [] add
def placeX (n:Nat) (blocks:Int):Nat->List (Nat × Nat)->Nat × Bool
 | first,[]=>(first,decide (blocks<=(n:Int) - first))
 | first,p::l=>if blocks<=(p.1:Int) - first then (first,true) else placeX n blocks (p.1+p.2) l
def insF (p:Nat × Nat):List (Nat × Nat)->List (Nat × Nat)
 | []=>[p]
 | q::l=>if p.1<=q.1 then p::q::l else q::insF p l
def sortF (l:List (Nat × Nat)):List (Nat × Nat):=l.foldr insF []
def insN (f:Fl):List Fl->List Fl
 | []=>[f]
 | g::l=>if f.num<=g.num then f::g::l else g::insN f l
def sortN (l:List Fl):List Fl:=l.foldr insN []
def addX (n turn:Nat):List Fi->List (Nat × Nat)->List Fl->Option (List Fl)
 | [],_,fs=>some fs
 | x::l,lie,fs=>
  match placeX n x.blocks 2 (sortF lie) with
  | (_,false)=>none
  | (at_,true)=>addX n turn l (lie++[(at_,x.blocks.toNat)]) (fs++[⟨x.num.toNat,at_,x.blocks.toNat,turn,1,[]⟩])
def Spc.lie (S:Spc):List (Nat × Nat):=S.files.map fun f=>(f.first,f.blocks)
def Spc.switch (S:Spc) (add:List Fi) (drop:List Int) (D:Dk):Spc × Dk × Int:=
 if S.may add drop=false then (S,D,31) else
 if (24:Int)<(S.files.length:Int)+add.length - drop.length then (S,D,32) else
 match addX D.cells.length ((S.turn+1) % 18446744073709551616) add S.lie (S.files.filter fun f=> !drop.contains (f.num:Int)) with
 | none=>(S,D,33)
 | some fs=>S.put (sortN fs) D
def nulls (m:Nat):List Value:=List.replicate m (.int .u8 0)
theorem nulls_one (m:Nat): ∀ u ∈ nulls m,u.oneCell'=true:=by
 intro u hu;obtain⟨_,rfl⟩:=List.mem_replicate.1 hu;rfl
theorem zeroCells_u8 (m:Nat):Builtin.zeroCells #[.int .u8 0] m=(nulls m).toArray:=by
 unfold Builtin.zeroCells nulls;apply Array.ext';simp only[Array.toList_map,Array.toList_range];apply List.ext_getElem?;intro j;simp only[List.getElem?_map,List.getElem?_replicate];by_cases hj:j<m
 .rw[List.getElem?_range (by simpa using hj),if_pos hj];have:j % (#[Value.int .u8 0]:Array Value).size=0:=Nat.mod_one j;simp[Nat.mod_one]
 .rw[if_neg hj,List.getElem?_eq_none (by simpa using hj)];rfl
section
variable {P:Program} {w w0:World} {F:SP}
theorem run_appZ (t ti ty e:TypeId) (i:TypeInfo) (ht:P.underlying t=some (.slice e)) (hti:P.underlying ti=some (.int .i64)) (hi:P.info? e=some i) (hz:i.zero=some (.int .u8 0)) (hs:i.size=1) (hb:i.bytes=1)
  (g n cap m:Nat) (xs:List Value) (hS:Sat w0 (Row e 1 (.slice (some ⟨g,0,none⟩) n cap) n xs*F) w) (h0:0<m) (hm:n+m<=1000000000):
  ∃ A' c' w',(Builtin.append_ #[t,ti] ty #[.slice (some ⟨g,0,none⟩) n cap,.int .i64 (m:Int)]).run P w = .ok (.slice A' (n+m) c') w'/\Sat w0 (Row e 1 (.slice A' (n+m) c') (n+m) (xs++nulls m)*F) w':=by
 obtain⟨hl,⟨e1,_⟩ | ⟨g',cap',cur,e1,hnc,hcm,hcs,htk,hP⟩⟩:=hS.row_cases
 .cases e1
 injection e1 with e1 _ e3
 injection e1 with e1
 injection e1 with e1
 subst e1;subst e3;have hg:w.heap[g]?=some (.cells cur e (0,0)):=hP.block;rw[Nat.mul_one] at hl hcs htk;have hw:IntKind.i64.wrap (m:Int)=m:=by rw[IntKind.wrap_i64];omega
 have hneg:¬ (m:Int)<0:=by omega
 have h48:¬ (281474976710656:Int)<(m:Int):=by omega
 have hnl:(nulls m).length=m:=List.length_replicate;have hzc:=zeroCells_u8 m;by_cases hroom:n+m<=cap
 .have hst:=run_storeCells_at P g n e (nulls m) 0 cur w hg (by rw[hnl];omega) (nulls_one m);simp only[Nat.add_zero] at hst;refine⟨some ⟨g,0,none⟩,cap,w.setRow g (cur.toList.take n++nulls m++cur.toList.drop (n+(nulls m).length)).toArray,?_,?_⟩
  .have h1:¬ m=0:=by omega
   simp[Builtin.append_,run_underlying ht,run_underlying hti,sizeOf,typeInfo,hi,hs,hb,hroom,Addr.add_lit,hst,asInt,asIntOf,hw,hneg,h48,h1,zeroValue,hz,hzc,Value.cells]
  .have h5:Sat w0 (Pt g e (cur.toList.take n++nulls m++cur.toList.drop (n+(nulls m).length)).toArray*F) _:=Sat.turn hP (w':=w.setRow g (cur.toList.take n++nulls m++cur.toList.drop (n+(nulls m).length)).toArray) ⟨rfl,rfl,rfl,by simp,fun k _ hk=>setRow_other w g k _ (fun e=>hk e)⟩ (setRow_heap w g cur _ e _ hg);have h6:=h5.row_pt (n:=n+m) (cap:=cap) (size:=1) hroom hcm (by simp;omega);refine h6.of ?_;congr 2
   rw[Nat.mul_one,htk];show List.take (n+m) (xs++nulls m++_)=_;exact List.take_left' (by rw[List.length_append,hl,hnl])
 .have h1:¬ m=0:=by omega
  have holds: ∀ j u,xs[j]?=some u->w.cell? ((⟨g,0,none⟩:Addr).add j)=some u:=(hS.row_own).cells (g:=g) rfl;have hfo:=run_firstCells_some (P:=P) w.drew i.size n ⟨g,0,none⟩ n cap xs (by rw[hl,hs,Nat.mul_one]) (by simpa using holds);have h63':¬ (9223372036854775807:Int)<(n:Int)+(m:Int):=by omega
  have hn48:Builtin.nextslicecap (n+m) cap*i.bytes<=281474976710656:=growslice_fits (by omega) (by rw[hb];omega);have h48':¬ 281474976710656<Builtin.nextslicecap (n+m) cap:=by rw[hb,Nat.mul_one] at hn48;omega
  have hge:=grownCap_ge w (n+m) cap e;have hcm2:grownCap w (n+m) cap e<=maxLen:=grownCap_le_maxLen w (n+m) cap e (by unfold maxLen;omega);refine⟨some ⟨w.heap.size,0,none⟩,grownCap w (n+m) cap e,w.drew.alloc (.cells (xs.toArray++(nulls m).toArray++Builtin.zeroCells #[.int .u8 0] (grownCap w (n+m) cap e - (n+m))) e),?_,?_⟩
  .rw[hs] at hfo;simp[Builtin.append_,run_underlying ht,run_underlying hti,sizeOf,typeInfo,hi,hs,hb,hroom,asInt,asIntOf,hw,hneg,h48,h1,zeroValue,hz,hzc,Value.cells,h63',h48',Question.forced,hfo,newRow,grownCap];congr 2
   apply Array.ext';simp[List.append_assoc]
  .have h5:=(hS.right.drew).allocPt e (xs.toArray++(nulls m).toArray++Builtin.zeroCells #[.int .u8 0] (grownCap w (n+m) cap e - (n+m)));have h6:=h5.row_pt (n:=n+m) (cap:=grownCap w (n+m) cap e) (size:=1) hge hcm2 (by rw[zeroCells_u8];simp[hl,hnl];unfold nulls;simp;omega);refine h6.of ?_;congr 2
   rw[Nat.mul_one];simp only[Array.toList_append,List.append_assoc];rw[<-List.append_assoc];exact List.take_left' (by rw[List.length_append,hl,hnl])
theorem wpList_appZ {ops:Array Oper} {o:Oper} {a:Act} {rest:List Oper} {Q:Exit->Act->World->Prop} (hgd:o.guard=none) (s x:Operand) (t ti e:TypeId) (i:TypeInfo)
  (ho:o.op = .call { callee:= .builtin .append,args:= #[s,x],argTypes:= #[t,ti] }) (ht:P.underlying t=some (.slice e)) (hti:P.underlying ti=some (.int .i64)) (hi:P.info? e=some i) (hz:i.zero=some (.int .u8 0)) (hs:i.size=1) (hb:i.bytes=1)
  (g n cap m:Nat) (xs:List Value) (hev:a.eval s = .slice (some ⟨g,0,none⟩) n cap) (hex:a.eval x = .int .i64 (m:Int)) (w0:World) (F:SP) (hS:Sat w0 (Row e 1 (.slice (some ⟨g,0,none⟩) n cap) n xs*F) w) (h0:0<m) (hm:n+m<=1000000000)
  (h: ∀ A' c' w',Sat w0 (Row e 1 (.slice A' (n+m) c') (n+m) (xs++nulls m)*F) w'->wpList P ops Q rest (a.put o.dst (.slice A' (n+m) c')) w'):wpList P ops Q (o::rest) a w:=by
 refine wpList_plain hgd fun K hK=>?_
 obtain⟨A',c',w',hrun,h2⟩:=run_appZ (P:=P) t ti o.type e i ht hti hi hz hs hb g n cap m xs hS h0 hm;unfold Oper.wp execOp;simp only[ho,resolve,invoke,builtin,Sem.run_bind,Sem.run_pure,Result.andThen_ok,List.map_toArray,List.map_cons,List.map_nil,hev,hex,hrun];exact hK _ _ (h _ _ _ h2)
end
def OwnR:Rows_->SP
 | []=>Emp
 | x::ks=>Row 5 1 (slOf x) x.2.2.length (x.2.2.map bv)*OwnR ks
theorem row_block {e:TypeId} {size n:Nat} {v:Value} {xs:List Value} {h:Hp} (hr:Row e size v n xs h) {g:Nat} (hg:v.ownBlock=some g): ∃ o,h g=some (false,o):=by
 rcases hr.2 with ⟨rfl,_⟩ | ⟨g',cap,cur,rfl,_,_,_,_,hp⟩
 .simp[Value.ownBlock] at hg
 .simp[Value.ownBlock] at hg;subst hg;unfold Pt Ow at hp;exact⟨.cells cur e (0,0),by rw[hp];unfold one1;simp⟩
theorem ownR_block: ∀ {ks:Rows_} {h:Hp},OwnR ks h-> ∀ x ∈ ks, ∀ g,(slOf x).ownBlock=some g-> ∃ o,h g=some (false,o)
 | [],_,_,x,hx,_,_=>by simp at hx
 | y::ks,h,hh,x,hx,g,hg=>by
  obtain⟨a,b,h1,rfl,h3,h4⟩:=hh;rcases List.mem_cons.1 hx with rfl | hx
  .obtain⟨o,ho⟩:=row_block h3 hg;exact⟨o,by unfold Hp.un;rw[ho];rfl⟩
  .obtain⟨o,ho⟩:=ownR_block h4 x hx g hg;refine⟨o,?_⟩;unfold Hp.un;rcases h1 g with q | q | ⟨o',q,q'⟩
   .rw[q];exact ho
   .rw[ho] at q;cases q
   .rw[ho] at q';injection q' with q';injection q' with q' _;cases q'
section
variable {w0 w w':World} {F:SP} {ks:Rows_}
theorem ownR_ownL: ∀ {ks:Rows_} {F:SP},Sat w0 (OwnR ks*F) w->OwnL w0.heap.size w ks
 | [],_,_=>OwnL.nil _ _
 | x::ks,F,h=>by
  have h1:Sat w0 (Row 5 1 (slOf x) x.2.2.length (x.2.2.map bv)*(OwnR ks*F)) w:=h.of (star_assoc _ _ _);have ih:=ownR_ownL h1.right;refine⟨fun y hy=>?_,List.pairwise_cons.2 ⟨fun y hy g hg hg'=>?_,ih.apart⟩⟩
  .rcases List.mem_cons.1 hy with rfl | hy
   .exact h1.row_own
   .exact ih.own y hy
  .obtain⟨c,z,z1,a,f,z2,rfl,z4,b,f',z5,rfl,z6,z7⟩:=h1;obtain⟨o,ho⟩:=row_block z4 hg;obtain⟨o',ho'⟩:=ownR_block z6 y hy g hg';have e:(b.un f') g=some (false,o'):=by unfold Hp.un;rw[ho'];rfl
   rcases z2 g with q | q | ⟨o'',q,q'⟩
   .rw[ho] at q;cases q
   .rw[e] at q;cases q
   .rw[ho] at q;injection q with q;injection q with q _;cases q
end
theorem Sat.gather {w0 w w':World} {A F:SP} (h:Sat w0 F w) (k:Chg No w w') (a:Hp) (hA:A a) (ha: ∀ i x,a i=some x->w'.heap[i]?=some x.2/\w.heap.size<=i):Sat w0 (A*F) w':=by
 obtain⟨f,h1,hf⟩:=h.hp;have hs:=h.size;refine⟨h.chg.tr k,a.un f,fun i x hx=>?_,a,f,fun i=>?_,rfl,hA,hf⟩
 .unfold Hp.un jn at hx
  cases hq:a i with
  | some y=>
   rw[hq] at hx;injection hx with hx
   subst hx;have h2:=ha i y hq;exact⟨h2.1,fun _=>Nat.le_trans hs h2.2⟩
  | none=>
   rw[hq] at hx;have h2:=h1 i x hx;refine⟨?_,h2.2⟩;rw[k.block i (lt_of_block h2.1) id];exact h2.1
 .cases hq:a i with
  | none=>exact .inl rfl
  | some y=>
   cases hr:f i with
   | none=>exact .inr (.inl rfl)
   | some z=>
    have h2:=lt_of_block (h1 i z hr).1;have h3:=(ha i y hq).2;omega
theorem row_hp {w:World} {base e size n:Nat} {v:Value} {xs:List Value} (h:w.ownsRow base e size v n xs): ∃ a:Hp,Row e size v n xs a/\ ∀ i x,a i=some x->w.heap[i]?=some x.2/\base<=i/\v.ownBlock=some i:=by
 obtain⟨hl,⟨rfl,rfl⟩ | ⟨g,cap,cur,rfl,h1,h2,h3,h4,h5,h6⟩⟩:=h
 .exact⟨fun _=>none,⟨hl,.inl ⟨rfl,rfl,rfl⟩⟩,fun i x hx=>by cases hx⟩
 .refine⟨one1 g (false,.cells cur e (0,0)),⟨hl,.inr ⟨g,cap,cur,rfl,h3,h4,h5,h6,rfl⟩⟩,fun i x hx=>?_⟩;unfold one1 at hx;split at hx
  .rename_i e1;injection hx with hx
   subst hx;subst e1;exact⟨h2,h1,rfl⟩
  .cases hx
theorem rows_hp {w:World} {base:Nat}: ∀ {rs:Rows_},OwnL base w rs-> ∃ a:Hp,OwnR rs a/\ ∀ i x,a i=some x->w.heap[i]?=some x.2/\base<=i/\ ∃ y ∈ rs,(slOf y).ownBlock=some i
 | [],_=>⟨fun _=>none,rfl,fun i x hx=>by cases hx⟩
 | y::rs,h=>by
  obtain⟨a,ha,hf⟩:=rows_hp (rs:=rs) ⟨fun x hx=>h.own x (List.mem_cons_of_mem _ hx),(List.pairwise_cons.1 h.apart).2⟩;obtain⟨b,hb,hg⟩:=row_hp (h.own y List.mem_cons_self);refine⟨b.un a,⟨b,a,fun i=>?_,rfl,hb,ha⟩,fun i x hx=>?_⟩
  .cases hq:b i with
   | none=>exact .inl rfl
   | some u=>
    cases hr:a i with
    | none=>exact .inr (.inl rfl)
    | some z=>
     obtain⟨_,_,y',hy',e'⟩:=hf i z hr;exact absurd e' ((List.pairwise_cons.1 h.apart).1 y' hy' i (hg i u hq).2.2)
  .unfold Hp.un jn at hx
   cases hq:b i with
   | some u=>
    rw[hq] at hx;injection hx with hx
    subst hx;have h2:=hg i u hq;exact⟨h2.1,h2.2.1,y,List.mem_cons_self,h2.2.2⟩
   | none=>
    rw[hq] at hx;obtain⟨h2,h3,y',hy',e'⟩:=hf i x hx;exact⟨h2,h3,y',List.mem_cons_of_mem _ hy',e'⟩
theorem Sat.gotLL {w0 w w':World} {F:SP} {v:Value} {rs:Rows_} (h:Sat w0 F w) (k:Chg No w w') (hv:OwnLL w.heap.size w' v rs):Sat w0 (Row 41 1 v rs.length (rs.map slOf)*(OwnR rs*F)) w':=by
 obtain⟨a,ha,hf⟩:=rows_hp hv.each;obtain⟨b,hb,hg⟩:=row_hp hv.row;refine(Sat.gather h k (A:=Row 41 1 v rs.length (rs.map slOf)*OwnR rs) (b.un a) ⟨b,a,fun i=>?_,rfl,hb,ha⟩ fun i x hx=>?_).of (star_assoc _ _ _)
 .cases hq:b i with
  | none=>exact .inl rfl
  | some u=>
   cases hr:a i with
   | none=>exact .inr (.inl rfl)
   | some z=>
    obtain⟨_,_,y',hy',e'⟩:=hf i z hr;exact absurd (hg i u hq).2.2 (fun e2=>own_ne (hv.each.own y' hy') hv.row (by decide) i e' e2)
 .unfold Hp.un jn at hx
  cases hq:b i with
  | some u=>
   rw[hq] at hx;injection hx with hx
   subst hx;have h2:=hg i u hq;exact⟨h2.1,h2.2.1⟩
  | none=>
   rw[hq] at hx;obtain⟨h2,h3,_⟩:=hf i x hx;exact⟨h2,h3⟩
theorem OwnR_rd {w0 w:World} {F:SP} {ks:Rows_} (h:Sat w0 (OwnR ks*F) w) {x:Option Addr × Nat × List UInt8} (hx:x ∈ ks):Rd w x.1 x.2.2:=(ownR_ownL h).rd hx
section
variable {w0 w:World} {F:SP}
theorem Sat.row_cut {e:TypeId} {size n c:Nat} {A:Option Addr} {xs:List Value} (h:Sat w0 (Row e size (.slice A n c) n xs*F) w) (m:Nat) (hm:m<=n):Sat w0 (Row e size (.slice A m c) m (xs.take (m*size))*F) w:=by
 obtain⟨hl,⟨e1,e2,h1⟩ | ⟨g,cap,cur,e1,h1,h2,h3,h4,h5⟩⟩:=h.row_cases
 .injection e1 with e1 _ e3
  subst e1;subst e3;subst e2;obtain rfl:m=0:=by omega
  rw[Nat.zero_mul,List.take_zero];exact h1.row_nil e size
 .injection e1 with e1 _ e3
  subst e1;subst e3;have h6:=h5.row_pt (n:=m) (cap:=c) (size:=size) (by omega) h2 h3;rw[<-h4,List.take_take,Nat.min_eq_left (Nat.mul_le_mul_right _ hm)];exact h6
end
end Go.Proofs.YtmbaiglpgaoogaaGreat
