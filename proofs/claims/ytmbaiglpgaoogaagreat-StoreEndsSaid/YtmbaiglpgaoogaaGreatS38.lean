/- Joined, as they were built one by one: StOpen StRaw StCrash. -/
import Derived.OpenShut
import Derived.Test.YtmbaiglpgaoogaaGreatS14
import Derived.Test.YtmbaiglpgaoogaaGreatS20
import Derived.Test.YtmbaiglpgaoogaaGreatS37
namespace Go.Proofs.YtmbaiglpgaoogaaGreat
open Go.RowKit Go.ChangeShapes Go.WideShapes Go.Deep
set_option linter.unusedVariables false
set_option maxRecDepth 100000
section
variable {H:Type} {enc:TypeId × Value→H} {P:Program} {w:World} {base:Nat} {spare:Nat→Bool} {held:Bool}
theorem open_elemsS {α:Type} [Inhabited α] (f:α→List Value) (good:α→Prop) (k bt:Nat) {t e:TypeId} {fuel:Nat} {cs:List Value} {x:DataW H × List MemPlace} (ht:P.underlying t=some (.slice e)) (hk:P.cellsOf e=k) (hb:P.bytesOf e=bt)
  (hf: ∀ x,(f x).length=k) (hpos:0<k) (each: ∀ n cs x,DataW.trod enc P w base spare held n e cs=some x→Sized P e x.1→ ∃ y,cs=f y∧good y)
  (h:DataW.trod enc P w base spare held fuel t cs=some x) (hz:Sized P t x.1):
  ∃ (A:Option Addr) (c:Nat) (l:List α),cs=[.slice A l.length c]∧l.length≤c∧c≤maxLen∧RdV w A (l.flatMap f)∧l.length*bt≤140737488351232∧ ∀ y ∈ l,good y:=by
 rcases open_slice ht h with ⟨rfl,_⟩ | ⟨a,len,cap,m,n,D,Pl,rfl,hba,hl,hm,hmm,hx,hi⟩
 ·exact⟨none,0,[],rfl,Nat.le_refl _,Nat.zero_le _,RdV.nil _ _,by simp,by simp⟩
 ·have hlm:len≤m:=by rw[hmm];split<;>omega
  subst hx;have hsz:=Sized.len hz ht;simp only[List.length_map,List.length_range,hb,reach_val] at hsz;have each': ∀ i,i<len→ ∃ y:α,good y∧ ∀ j,j<k→w.cell? (a.add (i*k+j))=(f y)[j]?:=fun i hil=>by
   have hD:Sized P e (D i):=Sized.elem hz ht (List.mem_map.2 ⟨i,List.mem_range.2 hil,rfl⟩);obtain⟨cs',hc,htr⟩:=hi i (by omega);obtain⟨y,hy,hg⟩:=each _ _ _ htr hD;refine⟨y,hg,fun j hj=>?_⟩;obtain⟨_,_,h3⟩:=World.cells?_some hc;rw[hk] at h3;have:=h3 j hj;rw[hy,add_add] at this;exact this
  obtain⟨g,hg⟩:=choose_lt each';refine⟨some a,cap,(List.range len).map g,by simp,by simpa using hl,hm,rdv_of_add fun j hj=>?_,?_,fun y hy=>?_⟩
  ·have hlen:=flatk_len hf ((List.range len).map g);simp only[List.length_map,List.length_range] at hlen;rw[hlen] at hj;have hq:j / k<len:=Nat.div_lt_of_lt_mul (by rw[Nat.mul_comm];exact hj);have hr:j % k<k:=Nat.mod_lt _ hpos;have h1:=(hg (j / k) hq).2 (j % k) hr;have h2:=flatk hf ((List.range len).map g) (j / k) (j % k) (by simpa using hq) hr;have hjk:j / k*k+j % k=j:=Nat.div_add_mod' j k;rw[hjk] at h1 h2;rw[h1];simp only[List.getElem_map,List.getElem_range] at h2;rw[←h2,List.getElem?_eq_getElem (by rw[hlen];exact hj)]
  ·simp only[List.length_map,List.length_range];have:=Nat.mul_le_mul_right bt (show len≤len+(m - len) by omega);omega
  ·obtain⟨j,hj,rfl⟩:=List.mem_map.1 hy;exact(hg j (List.mem_range.1 hj)).1
theorem open_boolsS {t e:TypeId} {fuel:Nat} {cs:List Value} {x:DataW H × List MemPlace} (ht:P.underlying t=some (.slice e)) (he:P.underlying e=some .bool) (ce:P.cellsOf e=1) (be:P.bytesOf e=1)
  (h:DataW.trod enc P w base spare held fuel t cs=some x) (hz:Sized P t x.1):
  ∃ (A:Option Addr) (c:Nat) (l:List Bool),cs=[.slice A l.length c]∧l.length≤c∧c≤maxLen∧RdV w A (l.map Value.bool)∧l.length≤140737488351232:=by
 obtain⟨A,c,l,h1,h2,h3,h4,h5,_⟩:=open_elemsS (fun b:Bool=>[Value.bool b]) (fun _=>True) 1 1 ht ce be (fun _=>rfl) (by decide) (fun n cs x hx _=>by
  obtain⟨b,hb,_⟩:=DataW.trod_bool he hx;exact⟨b,hb,trivial⟩) h hz
 refine⟨A,c,l,h1,h2,h3,?_,by omega⟩;have e:l.flatMap (fun b:Bool=>[Value.bool b])=l.map Value.bool:=by
  rw[List.flatMap_def];clear h1 h2 h4 h5;rename_i hq;clear hq
  induction l with
  | nil=>rfl
  | cons b l ih=>rw[List.map_cons,List.flatten_cons,ih];rfl
 rwa [e] at h4
end
instance:Inhabited Pu:=⟨⟨(none,0,[]),(none,0,[]),false⟩⟩
instance:Inhabited StpD:=⟨⟨0,0,none,0,[],(none,0,[]),(none,0,[]),none,0,[],0,0⟩⟩
def SlIn (w:World) (s:Slc):Prop:=Rd w s.1 s.2.2∧s.2.2.length≤s.2.1∧s.2.1≤maxLen∧s.2.2.length≤140737488351232
def PuIn10 (w:World) (p:Pu):Prop:=SlIn w p.key∧SlIn w p.value
def PsIn10 (w:World) (A:Option Addr) (c:Nat) (l:List Pu):Prop:=l.length≤c∧c≤maxLen∧RdV w A (l.flatMap puC)∧l.length*56≤140737488351232∧ ∀ p ∈ l,PuIn10 w p
theorem PsIn10.r {w:World} {A:Option Addr} {c:Nat} {l:List Pu} (h:PsIn10 w A c l):PusR w l:=fun p hp=>⟨(h.2.2.2.2 p hp).1.1,(h.2.2.2.2 p hp).2.1⟩
section
variable {H:Type} {enc:TypeId × Value→H} {w:World} {base:Nat} {spare:Nat→Bool} {held:Bool}
theorem Sized.field10 {P:Program} {t tj:TypeId} {fs:Array Field} {parts:List (DataW H)} {j:Nat} {d:DataW H} (h:Sized P t (.agg parts)) (hu:P.underlying t=some (.struct fs)) (ht:(fs.toList.map (·.type))[j]?=some tj) (hd:parts[j]?=some d):Sized P tj d:=
 fun n hn=>h n (by simp only[DataW.weights,hu];exact DataW.weights_mem_each ht hd n hn)
theorem cel_bool: Tryz.prog.cellsOf 4 = 1:=by kernel_rfl
theorem cel_bytes: Tryz.prog.cellsOf 41 = 1:=by kernel_rfl
theorem chg_of {n:Nat} {cs:List Value} {x:DataW H × List MemPlace} (h:DataW.trod enc Tryz.prog w base spare held n 43 cs=some x) (hz:Sized Tryz.prog 43 x.1):
  ∃ p:Pu,cs=puC p∧PuIn10 w p:=by
 obtain⟨xs,m,rfl,hx,hl,hxl,hi⟩:=DataW.trod_struct Tryz.underlying43 h;have hl3:cs.length=3:=hl.trans (by kernel_rfl);have hx3:xs.length=3:=hxl
 match cs,hl3,xs,hx3 with
 | [c0,c1,c2],_,[x0,x1,x2],_=>
  have f0:DataW.trod enc Tryz.prog w base spare held m 41 [c0]=some x0:=by have:=hi 0 _ rfl;simpa [cel_bytes] using this
  have f1:DataW.trod enc Tryz.prog w base spare held m 41 [c1]=some x1:=by have:=hi 1 _ rfl;simpa [cel_bytes] using this
  have f2:DataW.trod enc Tryz.prog w base spare held m 4 [c2]=some x2:=by have:=hi 2 _ rfl;simpa [cel_bytes,cel_bool] using this
  subst hx;have hz0:Sized Tryz.prog 41 x0.1:=Sized.field10 hz Tryz.underlying43 (j:=0) rfl rfl;have hz1:Sized Tryz.prog 41 x1.1:=Sized.field10 hz Tryz.underlying43 (j:=1) rfl rfl;obtain⟨A0,k0,l0,e0,p1,p2,p3,p4,_⟩:=open_bytes Tryz.underlying41 Tryz.underlying5 (by kernel_rfl) (by kernel_rfl) f0 hz0;obtain⟨A1,k1,l1,e1,q1,q2,q3,q4,_⟩:=open_bytes Tryz.underlying41 Tryz.underlying5 (by kernel_rfl) (by kernel_rfl) f1 hz1;obtain⟨a2,e2,_⟩:=DataW.trod_bool Tryz.underlying4 f2;injection e0 with e0 _
  injection e1 with e1 _
  injection e2 with e2 _
  subst e0;subst e1;subst e2;exact⟨⟨(A0,k0,l0),(A1,k1,l1),a2⟩,rfl,⟨p3,p1,p2,p4⟩,q3,q1,q2,q4⟩
theorem open_chgs {fuel:Nat} {cs:List Value} {x:DataW H × List MemPlace} (h:DataW.trod enc Tryz.prog w base spare held fuel 22 cs=some x) (hz:Sized Tryz.prog 22 x.1):
  ∃ (A:Option Addr) (c:Nat) (l:List Pu),cs=[.slice A l.length c]∧PsIn10 w A c l:=
 open_elemsS puC (PuIn10 w) 3 56 Tryz.underlying22 (by kernel_rfl) (by kernel_rfl) (fun _=>rfl) (by decide) (fun n cs x hx hz=>chg_of hx hz) h hz
end
end Go.Proofs.YtmbaiglpgaoogaaGreat
namespace Go.Proofs.YtmbaiglpgaoogaaGreat
open Go.RowKit
set_option linter.unusedVariables false
set_option maxRecDepth 100000
section
variable {w0 w:World} {F:SP} {d n:Nat} {D:Dk}
set_option maxHeartbeats 2000000 in
theorem format_few (h:Sat w0 (Disk d D*F) w) (ho:D.off=false) (hl:D.cells.length=n) (hn:n<64):
  Calls Tryz.prog 18 #[.pointer (some ⟨d,0,none⟩)] w fun x w'=>x = .returned (.int .i64 103)∧w=w':=by
 have hofc:Calls Tryz.prog 40 #[.pointer (some ⟨d,0,none⟩)] w fun e w'=>e = .returned (.bool false)∧w=w':=by
  have h9:=off_any d D w0 w F h;rw[ho] at h9;exact h9
 have hblc:Calls Tryz.prog 51 #[.pointer (some ⟨d,0,none⟩)] w fun e w'=>e = .returned (.int .i64 (n:Int))∧w=w':=by
  have h9:=blocks_any d D w0 w F h;rw[hl] at h9;exact h9
 have HOf:=ah hofc;have HBl:=ah hblc;have hlt:(n:Int)<64:=by omega
 clear hofc hblc h hl ho;go_enter Tryz.func18, Tryz.ntmps18;go_wp2_with (first
  | (go_at_call 40;(with_reducible refine HOf.out.mono ?_);rintro e w1 ⟨rfl,rfl⟩)
  | (go_at_call 51;(with_reducible refine HBl.out.mono ?_);rintro e w1 ⟨rfl,rfl⟩))
 go_ret;exact⟨rfl,rfl⟩
set_option maxHeartbeats 2000000 in
theorem open_raw (h:Sat w0 (Disk d D*F) w) (h2:2≤D.cells.length) (hN:D.cells.length≤65536) (ho:openX D=(none,30)):
  Calls Tryz.prog 19 #[.pointer (some ⟨d,0,none⟩)] w fun x w'=>x = .returned (.tuple #[.pointer none,.int .i64 105])∧Sat w0 (Disk d D*F) w':=by
 have hop:Calls Tryz.prog 53 #[.pointer (some ⟨d,0,none⟩)] w fun e w'=>e = .returned (.tuple #[.pointer none,.int .i64 30])∧Sat w0 (Disk d D*F) w':=by
  refine(open_any h h2 hN).mono ?_;rintro e w' ⟨p,h3,h4⟩;rw[ho] at h3 h4;have h5:=opt_none h4;subst h5;exact⟨h3,h4.right⟩
 have HOp:=ah hop;clear hop h h2 hN ho;go_enter Tryz.func19, Tryz.ntmps19;go_wp2_with (go_at_call 53;(with_reducible refine HOp.out.mono ?_);rintro e w2 ⟨rfl,hs⟩;have HS2:=ah hs;clear hs);go_ret2;exact⟨rfl,HS2.out⟩
theorem openX_new (h:2≤n):openX (Dk.new n)=(none,30):=openX_none (by rw[readX_new h]) (by rw[readX_new h])
theorem new_len:(Dk.new n).cells.length=n:=by unfold Dk.new;simp
variable {b t k a nx:Nat} {M:List Kv} {olds:Int→Option (List Kv)}
theorem sformat (hn:64≤n∧n≤65536) (hk:k≤9990) (h:Sto w0 F b d n t k 0 nx M olds w):
  Calls Tryz.prog 18 #[.pointer (some ⟨d,0,none⟩)] w fun x w'=>x = .returned (.int .i64 0)∧ ∃ D' S',openX D'=(some S',0)∧FndI n 0 (k+2) D' S' [[]]∧D'.armed=0∧Sat w0 (Disk d D'*F) w':=by
 obtain⟨s,S,v,D,h1,h2,h3,h4⟩:=h;obtain⟨sf,lim,i,E,bs,q1,q2,q3,q4,q5,q6⟩:=h1.dsk;obtain⟨slot,turn,lo,fa,fb,LF,y,hS,hy,hd⟩:=q1;have hg:=hd.good;have hln:=h1.len;have hc:=h1.cnt;have ha:D.armed=0:=by omega
 obtain⟨D1,e1,g1,c1,l1,a1⟩:=fm_space hg (by omega) ha;refine format_find d n (k+2) (20000*k+101) _ _ (lim+1) D D1 _ hn hg.fils.off hln.1 e1 g1 (by omega) a1 (by omega) ⟨?_,?_⟩ (c1 _ hc) (by omega) (by omega) (by omega) h4.right.right
 ·have:=hc.writes;omega
 ·have:=hc.pend;omega
theorem sopen_find (hk:k≤5000) (hF: ∃ D' S',openX D'=(some S',0)∧FndI n 0 k D' S' [[]]∧D'.armed=0∧Sat w0 (Disk d D'*F) w):
  Calls Tryz.prog 19 #[.pointer (some ⟨d,0,none⟩)] w fun e w'=> ∃ b,e = .returned (.tuple #[.pointer (some ⟨b,0,none⟩),.int .i64 0])∧Sto w0 F b d n 0 (k+1) 0 1 [] (fun _=>none) w':=by
 obtain⟨D',S',h1,h2,h3,h4⟩:=hF;refine(open_find d n 0 k D' h2 h1 (by omega) (by omega) (by omega) h4).mono ?_;rintro x w' ⟨M',hM,⟨b',s',S2,D2,v2,rfl,g1,g2,g3,g4,g5⟩ | ⟨_,g1,_⟩⟩
 ·rw[List.mem_singleton] at hM;subst hM;exact⟨b',rfl,s',S2,v2,D2,g1,by omega,g4,g5⟩
 ·omega
end
def Crd (w0:World) (F:SP) (d n t k:Nat) (Ms:List (List Kv)) (off:Bool) (w:World):Prop:=
 ∃ D,D.cells.length=n∧64≤n∧n≤65536∧D.off=off∧CrsI n t k D Ms∧Sat w0 (Disk d D*F) w
def Fnd (w0:World) (F:SP) (d n t k a:Nat) (Ms:List (List Kv)) (w:World):Prop:=
 ∃ D S,openX D=(some S,0)∧FndI n t k D S Ms∧D.armed=a∧Sat w0 (Disk d D*F) w
section
variable {w0 w w':World} {F F':SP} {b d n t k a nx:Nat} {M:List Kv} {olds:Int→Option (List Kv)} {Ms:List (List Kv)} {off:Bool}
theorem Crd.drop {A:SP} (h:Crd w0 (A*F) d n t k Ms off w):Crd w0 F d n t k Ms off w:=by
 obtain⟨D,h1,h2,h3,h4,h5,h6⟩:=h;exact⟨D,h1,h2,h3,h4,h5,h6.up2.right⟩
theorem Crd.of (h:Crd w0 F d n t k Ms off w) (e:F=F'):Crd w0 F' d n t k Ms off w:=by subst e;exact h
theorem Crd.mono (h:Crd w0 F d n t k Ms off w) {t' k':Nat} (ht:t≤t') (hk:k≤k'):Crd w0 F d n t' k' Ms off w:=by
 obtain⟨D,h1,h2,h3,h4,h5,h6⟩:=h;exact⟨D,h1,h2,h3,h4,h5.mono ht hk,h6⟩
theorem Sto.crd (hk:k≤100000) (h:Sto w0 F b d n t k a nx M olds w):Crd w0 F d n t (k+1) [M] false w:=by
 obtain⟨s,S,v,D,h1,h2,h3,h4⟩:=h;exact⟨D,h1.len.1,h1.len.2.1,h1.len.2.2.1,h1.len.2.2.2,h1.crash hk,h4.right.right⟩
theorem crs_off {D:Dk} (h:CrsI n t k D Ms):CrsI n t k { D with off:=true } Ms:=⟨⟨h.1.writes,h.1.pend⟩,h.2⟩
theorem read_arm (D:Dk) (x:Nat) (i:Int):({ D with armed:=x }:Dk).read i=D.read i:=by unfold Dk.read;rfl
theorem best_arm (D:Dk) (x:Nat) (s:Option Spc) (i:Nat):bestH { D with armed:=x } s i=bestH D s i:=by unfold bestH;rw[read_arm]
theorem readX_arm (D:Dk) (x:Nat):readX { D with armed:=x }=readX D:=by unfold readX;simp only[best_arm]
theorem ldRun_arm (D:Dk) (x birth first:Nat): ∀ k,ldRun { D with armed:=x } birth first k=ldRun D birth first k
 | 0=>rfl
 | k+1=>by
  show ldStep birth _ _=ldStep birth _ _;rw[read_arm,ldRun_arm D x birth first k]
theorem load_arm (D:Dk) (x:Nat):Fl.load { D with armed:=x }=Fl.load D:=by funext f;unfold Fl.load;rw[ldRun_arm]
theorem openX_arm (D:Dk) (x:Nat):openX { D with armed:=x }=openX D:=by unfold openX;rw[readX_arm,load_arm]
theorem ccut (h:Crd w0 F d n t k Ms off w):
  Calls Tryz.prog 38 #[.pointer (some ⟨d,0,none⟩)] w fun e w'=>e = .returned (.tuple #[])∧Crd w0 F d n t k Ms true w':=by
 obtain⟨D,h1,h2,h3,h4,h5,h6⟩:=h;refine(cut_any d D w0 w F h6).mono ?_;rintro e w' ⟨rfl,h7⟩;exact⟨rfl,{ D with off:=true },h1,h2,h3,rfl,crs_off h5,h7⟩
theorem con (Kp:Option Addr) (kc:Nat) (keep:List Bool) (torn bytes:Int) (hk:k≤10000) (hkc:keep.length≤9223372036854775807) (h:Crd w0 (Ro Kp (keep.map Value.bool)*F) d n t k Ms true w):
  Calls Tryz.prog 39 #[.pointer (some ⟨d,0,none⟩),.slice Kp keep.length kc,.int .i64 torn,.int .i64 bytes] w fun e w'=>e = .returned (.tuple #[])∧Fnd w0 (Ro Kp (keep.map Value.bool)*F) d n t k 0 Ms w':=by
 obtain⟨D,h1,h2,h3,h4,h5,h6⟩:=h;refine(on_any d D Kp kc keep torn bytes w0 w F h6 (by have:=h5.1.pend;omega) hkc).mono ?_;rintro e w' ⟨rfl,h7⟩;have e1:D.on keep torn bytes=D.crash keep torn bytes:=by
  obtain⟨cells,pend,armed,writes,o⟩:=D;subst h4;rfl
 rw[e1] at h7;obtain⟨S',g1,g2⟩:=h5.2 keep torn bytes;exact⟨rfl,_,S',g1,g2,crash_armed,h7⟩
theorem coff (h:Crd w0 F d n t k Ms off w):
  Calls Tryz.prog 40 #[.pointer (some ⟨d,0,none⟩)] w fun e w'=>e = .returned (.bool off)∧w=w':=by
 obtain⟨D,h1,h2,h3,h4,h5,h6⟩:=h;have h9:=off_any d D w0 w F h6;rw[h4] at h9;exact h9
theorem soff (h:Sto w0 F b d n t k a nx M olds w):
  Calls Tryz.prog 40 #[.pointer (some ⟨d,0,none⟩)] w fun e w'=>e = .returned (.bool false)∧w=w':=by
 obtain⟨s,S,v,D,h1,h2,h3,h4⟩:=h;have h9:=off_any d D w0 w F h4.right.right;rw[h1.len.2.2.2] at h9;exact h9
theorem sarm (x:Int) (h:Sto w0 F b d n t k a nx M olds w):
  Calls Tryz.prog 37 #[.pointer (some ⟨d,0,none⟩),.int .i64 x] w fun e w'=>e = .returned (.tuple #[])∧Sto w0 F b d n t k x.toNat nx M olds w':=by
 obtain⟨s,S,v,D,h1,h2,h3,h4⟩:=h;refine(arm_any d D x w0 w _ h4.up3).mono ?_;rintro e w' ⟨rfl,h5⟩;exact⟨rfl,s,S,v,_,h1.arm _,Nat.le_refl _,h3,h5.dn3⟩
theorem farm (x:Int) (h:Fnd w0 F d n t k a Ms w):
  Calls Tryz.prog 37 #[.pointer (some ⟨d,0,none⟩),.int .i64 x] w fun e w'=>e = .returned (.tuple #[])∧ ∃ D S,openX D=(some S,0)∧FndI n t k D S Ms∧D.armed=x.toNat∧Sat w0 (Disk d D*F) w':=by
 obtain⟨D,S,h1,h2,h3,h4⟩:=h;refine(arm_any d D x w0 w F h4).mono ?_;rintro e w' ⟨rfl,h5⟩;exact⟨rfl,_,S,(openX_arm D x.toNat).trans h1,h2.arm _,rfl,h5⟩
theorem fopen (ht:t≤1024) (hk:k≤10000) (ha:a≤9223372036854775807) (h:Fnd w0 F d n t k a Ms w):
  Calls Tryz.prog 19 #[.pointer (some ⟨d,0,none⟩)] w fun x w'=> ∃ M ∈ Ms,(∃ b,x = .returned (.tuple #[.pointer (some ⟨b,0,none⟩),.int .i64 0])∧Sto w0 F b d n t (k+1) a 1 M (fun _=>none) w')∨(a≠0∧x = .returned (.tuple #[.pointer none,.int .i64 21])∧Crd w0 F d n t (k+1) [M] true w'):=by
 obtain⟨D,S,h1,h2,h3,h4⟩:=h;subst h3;refine(open_find d n t k D h2 h1 ht hk ha h4).mono ?_;rintro x w' ⟨M',hM,⟨b',s',S2,D2,v2,rfl,g1,g2,g3,g4,g5⟩ | ⟨rfl,g1,D',g2,g3,g4,g5⟩⟩
 ·exact⟨M',hM,.inl ⟨b',rfl,s',S2,v2,D2,g1,g2,g4,g5⟩⟩
 ·exact⟨M',hM,.inr ⟨g1,rfl,D',g3,h2.len.2.1,h2.len.2.2.1,g2,g4,g5⟩⟩
theorem fopen0 (ht:t≤1024) (hk:k≤10000) (h:Fnd w0 F d n t k 0 Ms w):
  Calls Tryz.prog 19 #[.pointer (some ⟨d,0,none⟩)] w fun x w'=> ∃ M ∈ Ms, ∃ b,x = .returned (.tuple #[.pointer (some ⟨b,0,none⟩),.int .i64 0])∧Sto w0 F b d n t (k+1) 0 1 M (fun _=>none) w':=by
 refine(fopen ht hk (by omega) h).mono ?_;rintro x w' ⟨M',hM,h1 | ⟨h1,_⟩⟩
 ·exact⟨M',hM,h1⟩
 ·exact absurd rfl h1
theorem fopen1 (ht:t≤1024) (hk:k≤10000) (ha:a≤9223372036854775807) (h:Fnd w0 F d n t k a [M] w):
  Calls Tryz.prog 19 #[.pointer (some ⟨d,0,none⟩)] w fun x w'=> ∃ (pv:Value) (er:Int),x = .returned (.tuple #[pv,.int .i64 er])∧Hid ((∃ b,pv = .pointer (some ⟨b,0,none⟩)∧er=0∧Sto w0 F b d n t (k+1) a 1 M (fun _=>none) w')∨(pv = .pointer none∧er=21∧Crd w0 F d n t (k+1) [M] true w')):=by
 refine(fopen ht hk ha h).mono ?_;rintro x w' ⟨M',hM,⟨b,rfl,h1⟩ | ⟨_,rfl,h1⟩⟩
 ·rw[List.mem_singleton] at hM;subst hM;exact⟨_,_,rfl,.inl ⟨b,rfl,rfl,h1⟩⟩
 ·rw[List.mem_singleton] at hM;subst hM;exact⟨_,_,rfl,.inr ⟨rfl,rfl,h1⟩⟩
theorem swriteArm (A:Option Addr) (c:Nat) (ps:List Pu) (cs:List Chn) (hcs:ps.map Pu.chn=cs) (hk:k≤10000) (ht:t+ps.length≤1024) (ha:a≤9223372036854775807) (h:Sto w0 F b d n t k a nx M olds w)
  (hb: ∀ W,Sat w0 F W→RdV W A (ps.flatMap puC)∧PusR W ps) (hz: ∀ p ∈ ps,p.key.2.2.length≤1000000000∧p.value.2.2.length≤1000000000) (hc:chkB cs=0) (hf:fullB n (putsM cs M) cs=false):
  Calls Tryz.prog 20 #[.pointer (some ⟨b,0,none⟩),.slice A ps.length c] w fun x w'=>(x = .returned (.int .i64 0)∧Sto w0 F b d n (t+ps.length) (k+1) a nx (putsM cs M) olds w')∨(x = .returned (.int .i64 21)∧Crd w0 F d n (t+ps.length) (k+1) [M,putsM cs M] true w'):=by
 subst hcs;obtain⟨s,S,v,D,h1,h2,h3,h4⟩:=h;refine(write_st b d s v n t k D S M olds A c ps h1 hk ht (by omega) h4 hb hz).mono ?_;rintro x w' (⟨g1,_⟩ | ⟨g1,g2,_⟩ | ⟨g1,g2,rfl,S',D',v',g3,g4,g5,g6,g7,g8⟩ | ⟨_,_,rfl,g1,D',g2,g3,g4,g5⟩)
 ·exact absurd hc g1
 ·rw[hf] at g2;cases g2
 ·rw[List.length_map] at g3;exact .inl ⟨rfl,s,S',v',D',g3,by omega,by omega,g8⟩
 ·rw[List.length_map] at g4;exact .inr ⟨rfl,D',g3,h1.len.2.1,h1.len.2.2.1,g2,g4,g5⟩
end
end Go.Proofs.YtmbaiglpgaoogaaGreat
