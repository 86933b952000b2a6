/- Joined, as they were built one by one: Sto23 StOpen StRm StPlL StCrash StTopL. -/
import Derived.OpenShut
import Derived.Deep.CutBlock
import Derived.Test.YtmbaiglpgaoogaaGreatW01
import Derived.Test.YtmbaiglpgaoogaaGreatW02
import Derived.Test.YtmbaiglpgaoogaaGreatW04
import Derived.Test.YtmbaiglpgaoogaaGreatW12
import Derived.Test.YtmbaiglpgaoogaaGreatW16
import Derived.Test.YtmbaiglpgaoogaaGreatW32
import Derived.Test.YtmbaiglpgaoogaaGreatW33
import Derived.Test.YtmbaiglpgaoogaaGreatW34
import Derived.Test.YtmbaiglpgaoogaaGreatT01
import Derived.Test.YtmbaiglpgaoogaaGreatT02
set_option maxHeartbeats 16000000
set_option linter.unusedVariables false
set_option maxRecDepth 100000
namespace Go.Proofs.YtmbaiglpgaoogaaGreat
open Go.RowKit Z
section
variable {n t k:Nat} {D D':Dk} {S S':aK} {v:Sd} {M:List Kv} {olds:Int->Option (List Kv)} {Ms:List (List Kv)}
theorem Cz.len (h:Cz n t k D S Ms):D.cells.length=n/\64<=n/\n<=65536/\D.off=false:=by
 obtain⟨sf,lim,i,E,bs,x,⟨slot,turn,lo,fa,fb,LF,y,e1,e2,hd⟩,_⟩:=h;exact⟨hd.len,hd.big,hd.aG,hd.good.fils.off⟩
end
end Go.Proofs.YtmbaiglpgaoogaaGreat
namespace Go.Proofs.YtmbaiglpgaoogaaGreat
open Go.RowKit Go.ChangeShapes Go.WideShapes Go.Deep Z
section
variable {H:Type} {enc:TypeId × Value->H} {P:Program} {w:World} {base:Nat} {spare:Nat->Bool} {held:Bool}
theorem LH {α:Type} [Inhabited α] (f:α->List Value) (good:α->Prop) (k bt:Nat) {t e:TypeId} {fuel:Nat} {cs:List Value} {x:DataW H × List MemPlace} (ht:P.underlying t=some (.slice e)) (hk:P.cellsOf e=k) (hb:P.bytesOf e=bt)
 (hf: ∀ x,(f x).length=k) (hpos:0<k) (each: ∀ n cs x,DataW.trod enc P w base spare held n e cs=some x->ql P e x.1-> ∃ y,cs=f y/\good y)
 (h:DataW.trod enc P w base spare held fuel t cs=some x) (hz:ql P t x.1):
 ∃ (A:Option Addr) (c:Nat) (l:List α),cs=[.slice A l.length c]/\l.length<=c/\c<=maxLen/\aF w A (l.flatMap f)/\l.length*bt<=140737488351232/\ ∀ y ∈ l,good y:=by
 rcases open_slice ht h with ⟨rfl,_⟩ | ⟨a,len,cap,m,n,D,Pl,rfl,hba,hl,hm,hmm,hx,hi⟩
 .exact⟨none,0,[],rfl,Nat.le_refl _,Nat.zero_le _,aF.nil _ _,by simp,by simp⟩
 .have hlm:len<=m:=by rw[hmm];split<;>omega
  subst hx;have hsz:=ql.len hz ht;simp only[List.length_map,List.length_range,hb,sN] at hsz;have each': ∀ i,i<len-> ∃ y:α,good y/\ ∀ j,j<k->w.cell? (a.add (i*k+j))=(f y)[j]?:=fun i hil=>by
   have hD:ql P e (D i):=ql.elem hz ht (List.mem_map.2 ⟨i,List.mem_range.2 hil,rfl⟩);obtain⟨cs',hc,htr⟩:=hi i (by omega);obtain⟨y,hy,hg⟩:=each _ _ _ htr hD;refine⟨y,hg,fun j hj=>?_⟩;obtain⟨_,_,h3⟩:=World.cells?_some hc;rw[hk] at h3;have:=h3 j hj;rw[hy,add_add] at this;exact this
  obtain⟨g,hg⟩:=choose_lt each';refine⟨some a,cap,(List.range len).map g,by simp,by simpa using hl,hm,qQ fun j hj=>?_,?_,fun y hy=>?_⟩
  .have hlen:=sr hf ((List.range len).map g);simp only[List.length_map,List.length_range] at hlen;rw[hlen] at hj;have hq:j / k<len:=Nat.div_lt_of_lt_mul (by rw[Nat.mul_comm];exact hj);have hr:j % k<k:=Nat.mod_lt _ hpos;have h1:=(hg (j / k) hq).2 (j % k) hr;have h2:=Iu hf ((List.range len).map g) (j / k) (j % k) (by simpa using hq) hr;have hjk:j / k*k+j % k=j:=Nat.div_add_mod' j k;rw[hjk] at h1 h2;rw[h1];simp only[List.getElem_map,List.getElem_range] at h2;rw[<-h2,List.getElem?_eq_getElem (by rw[hlen];exact hj)]
  .simp only[List.length_map,List.length_range];have:=Nat.mul_le_mul_right bt (show len<=len+(m - len) by omega);omega
  .obtain⟨j,hj,rfl⟩:=List.mem_map.1 hy;exact(hg j (List.mem_range.1 hj)).1
end
def Nn (w:World) (s:du):Prop:=Rd w s.1 s.2.2/\s.2.2.length<=s.2.1/\s.2.1<=maxLen/\s.2.2.length<=140737488351232
def Mq (w:World) (p:Pu):Prop:=Nn w p.key/\Nn w p.value
def L3 (w:World) (A:Option Addr) (c:Nat) (l:List Pu):Prop:=l.length<=c/\c<=maxLen/\aF w A (l.flatMap fI)/\l.length*56<=140737488351232/\ ∀ p ∈ l,Mq w p
section
variable {H:Type} {enc:TypeId × Value->H} {w:World} {base:Nat} {spare:Nat->Bool} {held:Bool}
theorem ql.LJ {P:Program} {t tj:TypeId} {fs:Array Field} {parts:List (DataW H)} {j:Nat} {d:DataW H} (h:ql P t (.agg parts)) (hu:P.underlying t=some (.struct fs)) (ht:(fs.toList.map (·.type))[j]?=some tj) (hd:parts[j]?=some d):ql P tj d:=
 fun n hn=>h n (by simp only[DataW.weights,hu];exact DataW.weights_mem_each ht hd n hn)
theorem M4: Tryz.prog.cellsOf 4 = 1:=by kernel_rfl
theorem Lw: Tryz.prog.cellsOf 41 = 1:=by kernel_rfl
theorem Ny {n:Nat} {cs:List Value} {x:DataW H × List MemPlace} (h:DataW.trod enc Tryz.prog w base spare held n 43 cs=some x) (hz:ql Tryz.prog 43 x.1):
 ∃ p:Pu,cs=fI p/\Mq w p:=by
 obtain⟨xs,m,rfl,hx,hl,hxl,hi⟩:=DataW.trod_struct Tryz.underlying43 h;have hl3:cs.length=3:=hl.trans (by kernel_rfl);have hx3:xs.length=3:=hxl
 match cs,hl3,xs,hx3 with
 | [c0,c1,c2],_,[x0,x1,x2],_=>
  have f0:DataW.trod enc Tryz.prog w base spare held m 41 [c0]=some x0:=by have:=hi 0 _ rfl;simpa [Lw] using this
  have f1:DataW.trod enc Tryz.prog w base spare held m 41 [c1]=some x1:=by have:=hi 1 _ rfl;simpa [Lw] using this
  have f2:DataW.trod enc Tryz.prog w base spare held m 4 [c2]=some x2:=by have:=hi 2 _ rfl;simpa [Lw,M4] using this
  subst hx;have hz0:ql Tryz.prog 41 x0.1:=ql.LJ hz Tryz.underlying43 (j:=0) rfl rfl;have hz1:ql Tryz.prog 41 x1.1:=ql.LJ hz Tryz.underlying43 (j:=1) rfl rfl;obtain⟨A0,k0,l0,e0,p1,p2,p3,p4,_⟩:=Jo Tryz.underlying41 Tryz.underlying5 (by kernel_rfl) (by kernel_rfl) f0 hz0;obtain⟨A1,k1,l1,e1,q1,q2,q3,q4,_⟩:=Jo Tryz.underlying41 Tryz.underlying5 (by kernel_rfl) (by kernel_rfl) f1 hz1;obtain⟨a2,e2,_⟩:=DataW.trod_bool Tryz.underlying4 f2;injection e0 with e0 _
  injection e1 with e1 _
  injection e2 with e2 _
  subst e0;subst e1;subst e2;exact⟨⟨(A0,k0,l0),(A1,k1,l1),a2⟩,rfl,⟨p3,p1,p2,p4⟩,q3,q1,q2,q4⟩
theorem MC {fuel:Nat} {cs:List Value} {x:DataW H × List MemPlace} (h:DataW.trod enc Tryz.prog w base spare held fuel 22 cs=some x) (hz:ql Tryz.prog 22 x.1):
 ∃ (A:Option Addr) (c:Nat) (l:List Pu),cs=[.slice A l.length c]/\L3 w A c l:=
 LH fI (Mq w) 3 56 Tryz.underlying22 (by kernel_rfl) (by kernel_rfl) (fun _=>rfl) (by decide) (fun n cs x hx hz=>Ny hx hz) h hz
end
end Go.Proofs.YtmbaiglpgaoogaaGreat
namespace Go.Proofs.YtmbaiglpgaoogaaGreat
open Go.RowKit Z
theorem MI (p:Kv) (M:List Kv):cI (p::M)=p.1.length+p.2.length+40+cI M:=rfl
def NK (cs:List cE):Int:=(dt cs:Nat)
def NA (cs:List cE) (M:List Kv):List Kv:=if dt cs=0 then aZ cs M else M
theorem KT.of {n:Nat} {cs:List cE} {M M':List Kv} {er:Int} (h:KT n cs M er M') (hf:dt cs=0->ev n (aZ cs M) cs=false):er=NK cs/\M'=NA cs M:=by
 unfold NK NA;rcases h with ⟨h1,rfl,rfl⟩ | ⟨h1,h2,_⟩ | ⟨h1,_,rfl,rfl⟩
 .exact⟨rfl,by rw[if_neg h1]⟩
 .rw[hf h1] at h2;cases h2
 .exact⟨by rw[h1];rfl,by rw[if_pos h1]⟩
def Od (w0:World) (F:SP) (d n t k:Nat) (Ms:List (List Kv)) (off:Bool) (w:World):Prop:=
 ∃ D,D.cells.length=n/\64<=n/\n<=65536/\D.off=off/\wO n t k D Ms/\Sat w0 (af d D*F) w
def Oc (w0:World) (F:SP) (d n t k a:Nat) (Ms:List (List Kv)) (w:World):Prop:=
 ∃ D S,cJ D=(some S,0)/\Cz n t k D S Ms/\D.armed=a/\Sat w0 (af d D*F) w
section
variable {w0 w w':World} {F F':SP} {b d n t k a nx:Nat} {M:List Kv} {olds:Int->Option (List Kv)} {Ms:List (List Kv)} {off:Bool}
theorem N9 (ht:t<=1024) (hk:k<=10000) (ha:a<=9223372036854775807) (h:Oc w0 F d n t k a Ms w):
 Calls Tryz.prog 19 #[.pointer (some ⟨d,0,none⟩)] w fun x w'=> ∃ M ∈ Ms,(∃ b,x = .returned (.tuple #[.pointer (some ⟨b,0,none⟩),.int .i64 0])/\cX w0 F b d n t (k+1) a 1 M (fun _=>none) w')\/(a≠0/\x = .returned (.tuple #[.pointer none,.int .i64 21])/\Od w0 F d n t (k+1) [M] true w'):=by
 obtain⟨D,S,h1,h2,h3,h4⟩:=h;subst h3;refine(rN d n t k D h2 h1 ht hk ha h4).mono ?_;rintro x w' ⟨M',hM,⟨b',s',S2,D2,v2,rfl,g1,g2,g3,g4,g5⟩ | ⟨rfl,g1,D',g2,g3,g4,g5⟩⟩
 .exact⟨M',hM,.inl ⟨b',rfl,s',S2,v2,D2,g1,g2,g4,g5⟩⟩
 .exact⟨M',hM,.inr ⟨g1,rfl,D',g3,h2.len.2.1,h2.len.2.2.1,g2,g4,g5⟩⟩
theorem N6 (ht:t<=1024) (hk:k<=10000) (h:Oc w0 F d n t k 0 Ms w):
 Calls Tryz.prog 19 #[.pointer (some ⟨d,0,none⟩)] w fun x w'=> ∃ M ∈ Ms, ∃ b,x = .returned (.tuple #[.pointer (some ⟨b,0,none⟩),.int .i64 0])/\cX w0 F b d n t (k+1) 0 1 M (fun _=>none) w':=by
 refine(N9 ht hk (by omega) h).mono ?_;rintro x w' ⟨M',hM,h1 | ⟨h1,_⟩⟩
 .exact⟨M',hM,h1⟩
 .exact absurd rfl h1
end
def Mj (b d n t k a nx:Nat) (M:List Kv) (olds:Int->Option (List Kv)):SP:=fun h=> ∃ s S v D,(Bq n t k D S v M olds/\D.armed<=a/\v.next=nx)/\(dG b d s v*(ag s d S*af d D)) h
def NN (d n t k:Nat) (M:List Kv):SP:=fun h=> ∃ D S,(cJ D=(some S,0)/\Cz n t k D S [M]/\D.armed=0)/\af d D h
def NR (M:List Kv):Prop:= ∀ p ∈ M,p.1.length<=130/\p.2.length<=300
theorem NV: ∀ {M:List Kv},NR M->cI M<=M.length*470
 | [],_=>Nat.le_refl _
 | p::M,h=>by
  have h1:=NV (M:=M) fun q hq=>h q (List.mem_cons_of_mem _ hq)
  have h2:=h p List.mem_cons_self;rw[MI,List.length_cons];omega
theorem N1 {c:cE} {M:List Kv} (h:NR M) (hc:c.key.length<=130/\c.value.length<=300):NR (dK c M):=fun p hp=>by
 rcases Di hp with hp | rfl
 .exact h p hp
 .exact hc
theorem NX {M:List Kv} {c:cE} (hM:NR M) (hc:c.key.length<=130/\c.value.length<=300) (hl:M.length<=10):ev 1024 (aZ [c] M) [c]=false:=by
 have h1:=E6 c M;have h2:=NV hM;have h3:(aE [c]).length=4+c.key.length+c.value.length:=by
  rw[gj,List.length_append,fL];rfl
 have e1:aC 1024=70:=by decide
 have e2:bj 1024=441:=by decide
 have h4:aZ [c] M=dK c M:=rfl;unfold ev;rw[Bool.or_eq_false_iff,decide_eq_false_iff_not,decide_eq_false_iff_not,h4,e1,e2,h3];refine⟨by omega,?_⟩;unfold bh;rw[if_pos (by omega)];omega
section
variable {w0 w w':World} {F F' A B:SP} {b d n t k a nx g b2 d2 t2 k2 a2 nx2:Nat} {M N:List Kv} {olds olds2:Int->Option (List Kv)}
theorem cX.N8 (h:cX w0 F b d n t k a nx M olds w):Sat w0 (Mj b d n t k a nx M olds*F) w:=by
 obtain⟨s,S,v,D,h1,h2,h3,h4⟩:=h;have h5:=h4.of (show _=(dG b d s v*(ag s d S*af d D))*F by ac_rfl);obtain⟨c,x,g1,a',f,g2,g3,g4,g5⟩:=h5;exact⟨c,x,g1,a',f,g2,g3,⟨s,S,v,D,⟨h1,h2,h3⟩,g4⟩,g5⟩
theorem Sat.NP (h:Sat w0 (Mj b d n t k a nx M olds*F) w):cX w0 F b d n t k a nx M olds w:=by
 obtain⟨c,x,g1,a',f,g2,g3,⟨s,S,v,D,⟨h1,h2,h3⟩,g4⟩,g5⟩:=h;exact⟨s,S,v,D,h1,h2,h3,(show Sat w0 ((dG b d s v*(ag s d S*af d D))*F) w from ⟨c,x,g1,a',f,g2,g3,g4,g5⟩).of (by ac_rfl)⟩
theorem Sat.Oa (h:Sat w0 (NN d n t k M*F) w):Oc w0 F d n t k 0 [M] w:=by
 obtain⟨c,x,g1,a',f,g2,g3,⟨D,S,⟨h1,h2,h3⟩,g4⟩,g5⟩:=h;exact⟨D,S,h1,h2,h3,⟨c,x,g1,a',f,g2,g3,g4,g5⟩⟩
theorem Sat.Ob {D:Dk} {S:aK} (h1:cJ D=(some S,0)) (h2:Cz n t k D S [M]) (h3:D.armed=0) (h:Sat w0 (af d D*F) w):Sat w0 (NN d n t k M*F) w:=by
 obtain⟨c,x,g1,a',f,g2,g3,g4,g5⟩:=h;exact⟨c,x,g1,a',f,g2,g3,⟨D,S,⟨h1,h2,h3⟩,g4⟩,g5⟩
theorem cX.N3 (hk:k<=100000) (h:cX w0 F b d n t k 0 nx M olds w):Sat w0 (NN d n t (k+1) M*F) w:=by
 obtain⟨s,S,v,D,h1,h2,h3,h4⟩:=h;obtain⟨S',e1,e2⟩:=h1.again hk;exact Sat.Ob e1 e2 (by omega) h4.right.right
theorem cX.swap (h:cX w0 (Mj b2 d2 n t2 k2 a2 nx2 N olds2*F) b d n t k a nx M olds w):cX w0 (Mj b d n t k a nx M olds*F) b2 d2 n t2 k2 a2 nx2 N olds2 w:=h.N8.ay.NP
theorem N7 (h:Sat w0 F w):Calls Tryz.prog 16 #[.int .i64 1024] w fun e w'=> ∃ d,e = .returned (.tuple #[.pointer (some ⟨d,0,none⟩),.int .i64 0])/\Sat w0 (af d (Dk.new 1024)*F) w':=(Hx (1024:Int) w0 w F h).mono fun e w' h9=>by
 unfold FK at h9;rw[if_pos (by omega)] at h9;exact h9
theorem NW (h:Sat w0 (af d (Dk.new 1024)*F) w):Calls Tryz.prog 18 #[.pointer (some ⟨d,0,none⟩)] w fun e w'=>e = .returned (.int .i64 0)/\Sat w0 (NN d 1024 0 0 []*F) w':=by
 refine(wL d 1024 0 1 1 1 1 (Dk.new 1024) (fg 1024) (fun _=>0) (by omega) rfl (by unfold Dk.new;simp) (xG (by omega)) (zg (by omega) (by omega)) CN wV (by show 0<=_;omega) ⟨Nat.zero_le _,Nat.zero_le _⟩ BQ (by omega) (by omega) (by omega) h).mono ?_;rintro e w' ⟨rfl,D',S',h1,h2,h3,h4⟩;exact⟨rfl,Sat.Ob h1 h2 h3 h4⟩
theorem N4 (ht:t<=1024) (hk:k<=10000) (h:Sat w0 (NN d n t k M*F) w):
 Calls Tryz.prog 19 #[.pointer (some ⟨d,0,none⟩)] w fun x w'=> ∃ b,x = .returned (.tuple #[.pointer (some ⟨b,0,none⟩),.int .i64 0])/\cX w0 F b d n t (k+1) 0 1 M (fun _=>none) w':=by
 refine(N6 ht hk h.Oa).mono ?_;rintro x w' ⟨M',hM,b,rfl,h1⟩;rw[List.mem_singleton] at hM;subst hM;exact⟨b,rfl,h1⟩
theorem N5 (p:Pu) (gl:Nat) (hk:k<=10000) (ht:t+1<=1024) (h:cX w0 (Ow gl (.cells #[aJ p.key,aJ p.value,.bool p.dead] 43)*F) b d 1024 t k 0 nx M olds w) (hp: ∀ W,Sat w0 F W->Js W p) (hz:p.key.2.2.length<=130/\p.value.2.2.length<=300) (hM:NR M) (hl:M.length<=10):
 Calls Tryz.prog 20 #[.pointer (some ⟨b,0,none⟩),.slice (some ⟨gl,0,none⟩) 1 1] w fun x w'=>x = .returned (.int .i64 (NK [p.bq]))/\cX w0 F b d 1024 (t+1) (k+1) 0 nx (NA [p.bq] M) olds w':=by
 refine(DT p gl hk ht h hp ⟨by omega,by omega⟩).mono ?_;rintro x w' ⟨er,M',rfl,hr,hs⟩;obtain⟨rfl,rfl⟩:=hr.of fun _=>NX hM hz hl
 exact⟨rfl,hs⟩
theorem NU {p:Pu} (hz:p.key.2.2.length<=130/\p.value.2.2.length<=300) (h:NR M):NR (NA [p.bq] M):=by
 unfold NA;split
 .exact N1 h hz
 .exact h
theorem NS (kA:Option Addr) (kc:Nat) (kl kl2:List UInt8) (vA:Option Addr) (vc:Nat) (vl vl2:List UInt8) (dd:Bool) (hk:kl2=kl.take 130) (hv:vl2=vl.take 300) (h1:kl.length<=kc) (h2:vl.length<=vc) (w:World):
 Calls Tryz.prog 21 #[.agg #[.slice kA kl.length kc,.slice vA vl.length vc,.bool dd]] w fun e w'=>e = .returned (.agg #[.slice kA kl2.length kc,.slice vA vl2.length vc,.bool dd])/\ao No w w':=by
 have HS:Hid (Sat w (Pt (w.heap.size+1) 43 #[.slice none 0 0,.slice none 0 0,.bool false]*(Pt w.heap.size 43 #[.slice kA kl.length kc,.slice vA vl.length vc,.bool dd]*bF)) ((w.alloc (.cells #[.slice kA kl.length kc,.slice vA vl.length vc,.bool dd] 43)).alloc (.cells #[.slice none 0 0,.slice none 0 0,.bool false] 43))):=ah (((Sat.start w).bO (b:=w.heap.size) 43 #[.slice kA kl.length kc,.slice vA vl.length vc,.bool dd] rfl).bO (b:=w.heap.size+1) 43 #[.slice none 0 0,.slice none 0 0,.bool false] (by simp));have HK:Hid (kl2.length=min 130 kl.length):=ah (by rw[hk,List.length_take]);have HV:Hid (vl2.length=min 300 vl.length):=ah (by rw[hv,List.length_take]);have HC:Hid (kl.length<=kc/\vl.length<=vc):=ah ⟨h1,h2⟩;clear hk hv h1 h2;go_enter Tryz.func21, Tryz.ntmps21;go_upto_region 1 with fail;revert HS;generalize (w.alloc _).alloc _=W;generalize w.heap.size+1=R;generalize w.heap.size=E;intro HS;by_cases hk:130<kl.length
 case' pos=>
  have hgt:(130:Int)<kl.length:=by omega
  have hcap:(130:Int)<=kc:=by have:=HC.o.1;omega
  have c0:=HS.o.ay.cell 0;have f0:=HS.o.ay.frozen 0;have hs:=HS.o.ay.set 0 (.slice kA 130 kc);have e:kl2.length=130:=by have:=HK.o;omega
  go_upto_region 3 with fail;clear c0 f0 hgt hcap;revert hs;generalize World.setCell W _ _=W2;intro hs;have HS2:Hid (Sat w (Pt E 43 #[.slice kA kl2.length kc,.slice vA vl.length vc,.bool dd]*(Pt R 43 #[.slice none 0 0,.slice none 0 0,.bool false]*bF)) W2):=ah (by rw[e];exact hs);clear hs e HS hk HK
 case' neg=>
  have hgt:¬ (130:Int)<kl.length:=by omega
  have c0:=HS.o.ay.cell 0;have e:kl2.length=kl.length:=by have:=HK.o;omega
  go_upto_region 3 with fail;have HS2:Hid (Sat w (Pt E 43 #[.slice kA kl2.length kc,.slice vA vl.length vc,.bool dd]*(Pt R 43 #[.slice none 0 0,.slice none 0 0,.bool false]*bF)) W):=ah (by rw[e];exact HS.o.ay);clear c0 hgt e HS hk HK;generalize W=W2 at*
 all_goals
  by_cases hv:300<vl.length
  case' pos=>
   have hgt:(300:Int)<vl.length:=by omega
   have hcap:(300:Int)<=vc:=by have:=HC.o.2;omega
   have c0:=HS2.o.cell 1;have f0:=HS2.o.frozen 1;have hs:=HS2.o.set 1 (.slice vA 300 vc);have e:vl2.length=300:=by have:=HV.o;omega
   go_upto_region 5 with fail;clear c0 f0 hgt hcap;revert hs;generalize World.setCell W2 _ _=W3;intro hs;have HS3:Hid (Sat w (Pt E 43 #[.slice kA kl2.length kc,.slice vA vl2.length vc,.bool dd]*(Pt R 43 #[.slice none 0 0,.slice none 0 0,.bool false]*bF)) W3):=ah (by rw[e];exact hs);clear hs e HS2 hv HV
  case' neg=>
   have hgt:¬ (300:Int)<vl.length:=by omega
   have c0:=HS2.o.cell 1;have e:vl2.length=vl.length:=by have:=HV.o;omega
   go_upto_region 5 with fail;have HS3:Hid (Sat w (Pt E 43 #[.slice kA kl2.length kc,.slice vA vl2.length vc,.bool dd]*(Pt R 43 #[.slice none 0 0,.slice none 0 0,.bool false]*bF)) W2):=ah (by rw[e];exact HS2.o);clear c0 hgt e HS2 hv HV;generalize W2=W3 at*
  all_goals
   have h5:=HS3.o;have c0:W3.cell? ⟨E,0,none⟩=some (.slice kA kl2.length kc):=h5.cell 0;have c1:W3.cell? ⟨E,1,none⟩=some (.slice vA vl2.length vc):=h5.cell 1;have c2:W3.cell? ⟨E,2,none⟩=some (.bool dd):=h5.cell 2;have d0:=h5.ay.frozen 0;have d1:=h5.ay.frozen 1;have d2:=h5.ay.frozen 2;have e0:W3.cell? ⟨R,0,none⟩=some (.slice none 0 0):=h5.ay.cell 0;have e1:W3.cell? ⟨R,1,none⟩=some (.slice none 0 0):=h5.ay.cell 1;have e2:W3.cell? ⟨R,2,none⟩=some (.bool false):=h5.ay.cell 2;have h6:=((h5.ay.set 0 (.slice kA kl2.length kc)).set 1 (.slice vA vl2.length vc)).set 2 (.bool dd);simp only[List.setIfInBounds_toArray,List.set_cons_zero,List.set_cons_succ] at h6;have HS6:=ah h6;clear h6 h5;go_wp2_with fail;have h6:=HS6.o;revert h6;generalize World.setCell _ _ _=w4;intro h6;refine bodyPost_ret (results_cell_row (p:=2) (by kernel_rfl) _ _ R 43 _ (0,0) _ rfl h6.at Tryz.underlying43 rfl (by kernel_rfl)) rfl ?_;exact⟨rfl,h6.aL⟩
theorem NO (x:Int) (w:World):Calls Tryz.prog 17 #[.int .i64 x] w fun e w'=>e = .returned (.int .i64 x)/\w=w':=by
 go_enter Tryz.func17, Tryz.ntmps17;go_wp2;go_ret;exact⟨rfl,rfl⟩
theorem NY (p:Pu) (gl:Nat) (hk:k<=10000) (ht:t+1<=1024) (h:Sat w0 (Ow gl (.cells #[aJ p.key,aJ p.value,.bool p.dead] 43)*(Mj b d 1024 t k 0 nx M olds*F)) w) (hp: ∀ W,ao No w0 W->Js W p) (hz:p.key.2.2.length<=130/\p.value.2.2.length<=300) (hM:NR M) (hl:M.length<=10):
 Calls Tryz.prog 20 #[.pointer (some ⟨b,0,none⟩),.slice (some ⟨gl,0,none⟩) 1 1] w fun x w'=>x = .returned (.int .i64 (NK [p.bq]))/\Sat w0 (Mj b d 1024 (t+1) (k+1) 0 nx (NA [p.bq] M) olds*F) w':=by
 refine(N5 p gl hk ht h.ay.NP (fun W hW=>hp W hW.aL) hz hM hl).mono ?_;rintro x w' ⟨rfl,hs⟩;exact⟨rfl,hs.N8⟩
theorem NZ (p:Pu) (gl:Nat) (h:Sat w0 (Ow gl (.cells #[aJ p.key,aJ p.value,.bool p.dead] 43)*(eN g N [] []*F)) w) (hp: ∀ W,ao No w0 W->Js W p) (hz:p.key.2.2.length<=130/\p.value.2.2.length<=300) (hl:N.length<=9000):
 Calls Tryz.prog 22 #[.pointer (some ⟨g,0,none⟩),.slice (some ⟨gl,0,none⟩) 1 1] w fun x w'=>x = .returned (.int .i64 (NK [p.bq]))/\Sat w0 (eN g (NA [p.bq] N) [] []*F) w':=by
 refine(GA p gl h.ay (fun W hW=>hp W hW.aL) hl ⟨by omega,by omega⟩).mono ?_;rintro x w' ⟨rfl,hs⟩;exact⟨rfl,hs.of (by unfold NA;rfl)⟩
theorem Sat.NQ (h:Sat w0 (Mj b d n t k a nx M olds*F) w) {t' k':Nat} (ht:t<=t') (hk:k<=k'):Sat w0 (Mj b d n t' k' a nx M olds*F) w:=(h.NP.mono ht hk).N8
theorem Sat.MS (h:Sat w0 (Mj b d n t k a nx M olds*F) w):M.length<=t:=h.NP.gW.2.1
end
end Go.Proofs.YtmbaiglpgaoogaaGreat
