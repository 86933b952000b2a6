/- Joined, as they were built one by one: StOpen StRef1. -/
import Derived.OpenShut
import Derived.Test.YtmbaiglpgaoogaaGreatV05
import Derived.Test.YtmbaiglpgaoogaaGreatV40
namespace Go.Proofs.YtmbaiglpgaoogaaGreat
open Go.RowKit Go.ChangeShapes Go.WideShapes Go.Deep
set_option linter.unusedVariables false
set_option maxRecDepth 100000
section
variable {H:Type} {enc:TypeId × Value->H} {P:Program} {w:World} {base:Nat} {spare:Nat->Bool} {held:Bool}
theorem open_elemsS {α:Type} [Inhabited α] (f:α->List Value) (good:α->Prop) (k bt:Nat) {t e:TypeId} {fuel:Nat} {cs:List Value} {x:DataW H × List MemPlace} (ht:P.underlying t=some (.slice e)) (hk:P.cellsOf e=k) (hb:P.bytesOf e=bt)
  (hf: ∀ x,(f x).length=k) (hpos:0<k) (each: ∀ n cs x,DataW.trod enc P w base spare held n e cs=some x->Sized P e x.1-> ∃ y,cs=f y/\good y)
  (h:DataW.trod enc P w base spare held fuel t cs=some x) (hz:Sized P t x.1):
  ∃ (A:Option Addr) (c:Nat) (l:List α),cs=[.slice A l.length c]/\l.length<=c/\c<=maxLen/\RdV w A (l.flatMap f)/\l.length*bt<=140737488351232/\ ∀ y ∈ l,good y:=by
 rcases open_slice ht h with ⟨rfl,_⟩ | ⟨a,len,cap,m,n,D,Pl,rfl,hba,hl,hm,hmm,hx,hi⟩
 .exact⟨none,0,[],rfl,Nat.le_refl _,Nat.zero_le _,RdV.nil _ _,by simp,by simp⟩
 .have hlm:len<=m:=by rw[hmm];split<;>omega
  subst hx;have hsz:=Sized.len hz ht;simp only[List.length_map,List.length_range,hb,reach_val] at hsz;have each': ∀ i,i<len-> ∃ y:α,good y/\ ∀ j,j<k->w.cell? (a.add (i*k+j))=(f y)[j]?:=fun i hil=>by
   have hD:Sized P e (D i):=Sized.elem hz ht (List.mem_map.2 ⟨i,List.mem_range.2 hil,rfl⟩);obtain⟨cs',hc,htr⟩:=hi i (by omega);obtain⟨y,hy,hg⟩:=each _ _ _ htr hD;refine⟨y,hg,fun j hj=>?_⟩;obtain⟨_,_,h3⟩:=World.cells?_some hc;rw[hk] at h3;have:=h3 j hj;rw[hy,add_add] at this;exact this
  obtain⟨g,hg⟩:=choose_lt each';refine⟨some a,cap,(List.range len).map g,by simp,by simpa using hl,hm,rdv_of_add fun j hj=>?_,?_,fun y hy=>?_⟩
  .have hlen:=flatk_len hf ((List.range len).map g);simp only[List.length_map,List.length_range] at hlen;rw[hlen] at hj;have hq:j / k<len:=Nat.div_lt_of_lt_mul (by rw[Nat.mul_comm];exact hj);have hr:j % k<k:=Nat.mod_lt _ hpos;have h1:=(hg (j / k) hq).2 (j % k) hr;have h2:=flatk hf ((List.range len).map g) (j / k) (j % k) (by simpa using hq) hr;have hjk:j / k*k+j % k=j:=Nat.div_add_mod' j k;rw[hjk] at h1 h2;rw[h1];simp only[List.getElem_map,List.getElem_range] at h2;rw[<-h2,List.getElem?_eq_getElem (by rw[hlen];exact hj)]
  .simp only[List.length_map,List.length_range];have:=Nat.mul_le_mul_right bt (show len<=len+(m - len) by omega);omega
  .obtain⟨j,hj,rfl⟩:=List.mem_map.1 hy;exact(hg j (List.mem_range.1 hj)).1
end
instance:Inhabited Pu:=⟨⟨(none,0,[]),(none,0,[]),false⟩⟩
instance:Inhabited StpD:=⟨⟨0,0,none,0,[],(none,0,[]),(none,0,[]),none,0,[],0,0⟩⟩
def SlIn (w:World) (s:Slc):Prop:=Rd w s.1 s.2.2/\s.2.2.length<=s.2.1/\s.2.1<=maxLen/\s.2.2.length<=140737488351232
def PuIn10 (w:World) (p:Pu):Prop:=SlIn w p.key/\SlIn w p.value
def PsIn10 (w:World) (A:Option Addr) (c:Nat) (l:List Pu):Prop:=l.length<=c/\c<=maxLen/\RdV w A (l.flatMap puC)/\l.length*56<=140737488351232/\ ∀ p ∈ l,PuIn10 w p
section
variable {H:Type} {enc:TypeId × Value->H} {w:World} {base:Nat} {spare:Nat->Bool} {held:Bool}
theorem Sized.field10 {P:Program} {t tj:TypeId} {fs:Array Field} {parts:List (DataW H)} {j:Nat} {d:DataW H} (h:Sized P t (.agg parts)) (hu:P.underlying t=some (.struct fs)) (ht:(fs.toList.map (·.type))[j]?=some tj) (hd:parts[j]?=some d):Sized P tj d:=
 fun n hn=>h n (by simp only[DataW.weights,hu];exact DataW.weights_mem_each ht hd n hn)
theorem cel_bool: Tryz.prog.cellsOf 4 = 1:=by kernel_rfl
theorem cel_bytes: Tryz.prog.cellsOf 41 = 1:=by kernel_rfl
theorem chg_of {n:Nat} {cs:List Value} {x:DataW H × List MemPlace} (h:DataW.trod enc Tryz.prog w base spare held n 43 cs=some x) (hz:Sized Tryz.prog 43 x.1):
  ∃ p:Pu,cs=puC p/\PuIn10 w p:=by
 obtain⟨xs,m,rfl,hx,hl,hxl,hi⟩:=DataW.trod_struct Tryz.underlying43 h;have hl3:cs.length=3:=hl.trans (by kernel_rfl);have hx3:xs.length=3:=hxl
 match cs,hl3,xs,hx3 with
 | [c0,c1,c2],_,[x0,x1,x2],_=>
  have f0:DataW.trod enc Tryz.prog w base spare held m 41 [c0]=some x0:=by have:=hi 0 _ rfl;simpa [cel_bytes] using this
  have f1:DataW.trod enc Tryz.prog w base spare held m 41 [c1]=some x1:=by have:=hi 1 _ rfl;simpa [cel_bytes] using this
  have f2:DataW.trod enc Tryz.prog w base spare held m 4 [c2]=some x2:=by have:=hi 2 _ rfl;simpa [cel_bytes,cel_bool] using this
  subst hx;have hz0:Sized Tryz.prog 41 x0.1:=Sized.field10 hz Tryz.underlying43 (j:=0) rfl rfl;have hz1:Sized Tryz.prog 41 x1.1:=Sized.field10 hz Tryz.underlying43 (j:=1) rfl rfl;obtain⟨A0,k0,l0,e0,p1,p2,p3,p4,_⟩:=open_bytes Tryz.underlying41 Tryz.underlying5 (by kernel_rfl) (by kernel_rfl) f0 hz0;obtain⟨A1,k1,l1,e1,q1,q2,q3,q4,_⟩:=open_bytes Tryz.underlying41 Tryz.underlying5 (by kernel_rfl) (by kernel_rfl) f1 hz1;obtain⟨a2,e2,_⟩:=DataW.trod_bool Tryz.underlying4 f2;injection e0 with e0 _
  injection e1 with e1 _
  injection e2 with e2 _
  subst e0;subst e1;subst e2;exact⟨⟨(A0,k0,l0),(A1,k1,l1),a2⟩,rfl,⟨p3,p1,p2,p4⟩,q3,q1,q2,q4⟩
theorem open_chgs {fuel:Nat} {cs:List Value} {x:DataW H × List MemPlace} (h:DataW.trod enc Tryz.prog w base spare held fuel 22 cs=some x) (hz:Sized Tryz.prog 22 x.1):
  ∃ (A:Option Addr) (c:Nat) (l:List Pu),cs=[.slice A l.length c]/\PsIn10 w A c l:=
 open_elemsS puC (PuIn10 w) 3 56 Tryz.underlying22 (by kernel_rfl) (by kernel_rfl) (fun _=>rfl) (by decide) (fun n cs x hx hz=>chg_of hx hz) h hz
end
end Go.Proofs.YtmbaiglpgaoogaaGreat
namespace Go.Proofs.YtmbaiglpgaoogaaGreat
open Go.RowKit
set_option linter.unusedVariables false
set_option maxRecDepth 100000
def slcsE (es:List En):List Slc:=es.flatMap fun e=>[e.key,e.value]
def MpA (v:Value) (n:Nat):Prop:= ∃ A c,v = .slice A n c/\n<=c/\c<=maxLen/\((A=none/\c=0)\/ ∃ g,A=some ⟨g,0,none⟩)
def adV:Value->Option Addr
 | .slice A _ _=>A
 | _=>none
def MpC (v:Value) (es:List En):SP:=SP.and (MpA v es.length) (Ro (adV v) (es.flatMap prV)*RoL (slcsE es))
def MpP (v:Value) (M:List Kv):SP:=fun h=> ∃ es,pairsE es=M/\MpC v es h
section
variable {w0 w w':World} {F:SP} {v:Value} {M:List Kv} {es fs:List En}
theorem Sat.mp (h:Sat w0 (MpP v M*F) w): ∃ es,pairsE es=M/\Sat w0 (MpC v es*F) w:=by
 obtain⟨c,x,h1,a,g,h2,h3,⟨es,h4,h5⟩,h8⟩:=h;exact⟨es,h4,⟨c,x,h1,a,g,h2,h3,h5,h8⟩⟩
theorem Sat.mpI (h:Sat w0 (MpC v es*F) w) (he:pairsE es=M):Sat w0 (MpP v M*F) w:=by
 obtain⟨c,x,h1,a,g,h2,h3,h5,h8⟩:=h;exact⟨c,x,h1,a,g,h2,h3,⟨es,he,h5⟩,h8⟩
theorem Sat.mpc_d (h:Sat w0 (MpC v es*F) w):MpA v es.length/\Sat w0 (Ro (adV v) (es.flatMap prV)*(RoL (slcsE es)*F)) w:=by
 obtain⟨p,h1⟩:=Sat.pure h;exact⟨p,h1.of (star_assoc ..)⟩
theorem Sat.mpc_i (p:MpA v es.length) (h:Sat w0 (Ro (adV v) (es.flatMap prV)*(RoL (slcsE es)*F)) w):Sat w0 (MpC v es*F) w:=Sat.pureI p (h.of (star_assoc ..).symm)
theorem Sat.mpc_dup (h:Sat w0 (MpC v es*F) w):Sat w0 (MpC v es*(MpC v es*F)) w:=by
 obtain⟨p,h1⟩:=h.mpc_d;have e:Ro (adV v) (es.flatMap prV)*(RoL (slcsE es)*F)=(Ro (adV v) (es.flatMap prV)*Ro (adV v) (es.flatMap prV))*((RoL (slcsE es)*RoL (slcsE es))*F):=by rw[ro_dup,rol_dup]
 have h2:Sat w0 (Ro (adV v) (es.flatMap prV)*(RoL (slcsE es)*(Ro (adV v) (es.flatMap prV)*(RoL (slcsE es)*F)))) w:=h1.of (e.trans (by ac_rfl));have h3:=Sat.mpc_i p h2;have h4:Sat w0 (Ro (adV v) (es.flatMap prV)*(RoL (slcsE es)*(MpC v es*F))) w:=h3.of (by ac_rfl);exact Sat.mpc_i p h4
theorem Sat.mpc_rol (h:Sat w0 (MpC v es*F) w):Sat w0 (RoL (slcsE es)*(MpC v es*F)) w:=by
 obtain⟨p,h1⟩:=h.mpc_dup.mpc_d;exact h1.right
theorem Sat.mpc_row {n:Nat} (h:Sat w0 (Row 65 2 v n (es.flatMap prV)*(RoL (slcsE es)*F)) w) (hn:es.length=n):Sat w0 (MpC v es*F) w:=by
 subst hn;obtain⟨hl,⟨rfl,e2,h1⟩ | ⟨g,cap,cur,rfl,h1,h2,h3,h4,h5⟩⟩:=h.row_cases
 .have e3:es.flatMap prV=[]:=List.eq_nil_of_length_eq_zero (by rw[hl,e2]);refine Sat.mpc_i ⟨none,0,by rw[e2],by omega,Nat.zero_le _,.inl ⟨rfl,rfl⟩⟩ ?_;rw[e3];exact h1.roNil _
 .refine Sat.mpc_i ⟨_,_,rfl,h1,h2,.inr ⟨g,rfl⟩⟩ ?_;refine h5.give fun j hj=>?_
  have:(es.flatMap prV)[j]?=some (es.flatMap prV)[j]:=List.getElem?_eq_getElem hj;rw[Nat.zero_add, <-this, <-h4,List.getElem?_take,if_pos (by rw[<-hl];exact hj)];simp
theorem rol_ens (h:Sat w0 (RoL (slcsE es)*F) w):EnsR w es:=fun e he=>by
 have m: ∀ y,y ∈ [e.key,e.value]->y ∈ slcsE es:=fun y hy=>List.mem_flatMap.2 ⟨e,he,hy⟩
 exact⟨h.rol (m _ (by simp)),h.rol (m _ (by simp))⟩
theorem Sat.mpc_ens (h:Sat w0 (MpC v es*F) w):EnsR w es:=rol_ens h.mpc_rol
theorem Sat.mpc_v (h:Sat w0 (MpC v es*F) w): ∃ A c,v = .slice A es.length c/\es.length<=c/\c<=maxLen:=by
 obtain⟨⟨A,c,h1,h2,h3,_⟩,_⟩:=h.mpc_d;exact⟨A,c,h1,h2,h3⟩
theorem Sat.mpc_w {A:Option Addr} {n c:Nat} (h:Sat w0 (MpC (.slice A n c) es*F) w):(A=none/\es.length=0/\c=0)\/ ∃ g,A=some ⟨g,0,none⟩:=by
 obtain⟨⟨B,d,h1,h2,h3,h4⟩,_⟩:=h.mpc_d;injection h1 with e1 e2 e3
 subst e1;rcases h4 with ⟨h4,h5⟩ | h4
 .exact .inl ⟨h4,by omega,by omega⟩
 .exact .inr h4
theorem Sat.mpc_rd {A:Option Addr} {c:Nat} (h:Sat w0 (MpC (.slice A es.length c) es*F) w):RdV w A (es.flatMap prV):=h.mpc_d.2.rdv
theorem Sat.mp_nil (h:Sat w0 F w):Sat w0 (MpP (.slice none 0 0) []*F) w:=by
 refine Sat.mpI (es:=[]) ?_ rfl;exact Sat.mpc_row (n:=0) ((h.rolNil (slcsE []) (fun r hr=>by cases hr)).row_nil 65 2) rfl
theorem slcsE_sub (h: ∀ e ∈ fs,e ∈ es): ∀ r ∈ slcsE fs,r ∈ slcsE es:=fun r hr=>by
 obtain⟨e,he,h1⟩:=List.mem_flatMap.1 hr;exact List.mem_flatMap.2 ⟨e,h e he,h1⟩
end
end Go.Proofs.YtmbaiglpgaoogaaGreat
