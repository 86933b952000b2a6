/- Joined, as they were built one by one: Sto24 Sto25 StKey StTold StCut StOpen StRef1. -/
import Derived.OpenShut
import Derived.Test.YtmbaiglpgaoogaaGreatW09
import Derived.Test.YtmbaiglpgaoogaaGreatW11
import Derived.Test.YtmbaiglpgaoogaaGreatW12
import Derived.Test.YtmbaiglpgaoogaaGreatW13
import Derived.Test.YtmbaiglpgaoogaaGreatW16
import Derived.Test.YtmbaiglpgaoogaaGreatW29
import Derived.Test.YtmbaiglpgaoogaaGreatW30
import Derived.Test.YtmbaiglpgaoogaaGreatW32
set_option maxHeartbeats 16000000
set_option linter.unusedVariables false
set_option maxRecDepth 100000
namespace Go.Proofs.YtmbaiglpgaoogaaGreat
open Go.RowKit Z
def cX (w0:World) (F:SP) (b d n t k a nx:Nat) (M:List Kv) (olds:Int->Option (List Kv)) (w:World):Prop:=
 ∃ s S v D,Bq n t k D S v M olds/\D.armed<=a/\v.next=nx/\Sat w0 (dG b d s v*(ag s d S*(af d D*F))) w
section
variable {w0 w w':World} {F F':SP} {b d n t k a nx:Nat} {M:List Kv} {olds:Int->Option (List Kv)}
theorem cX.sat (h:cX w0 F b d n t k a nx M olds w):Sat w0 F w:=by
 obtain⟨s,S,v,D,h1,h2,h3,h4⟩:=h;exact h4.right.right.right
theorem cX.map (h:cX w0 F b d n t k a nx M olds w) (f: ∀ G,Sat w0 (G*F) w->Sat w0 (G*F') w'):cX w0 F' b d n t k a nx M olds w':=by
 obtain⟨s,S,v,D,h1,h2,h3,h4⟩:=h;exact⟨s,S,v,D,h1,h2,h3,(f _ (h4.of (show _=dG b d s v*(ag s d S*af d D)*F by ac_rfl))).of (by ac_rfl)⟩
theorem cX.new (h:cX w0 F b d n t k a nx M olds w) (hk:ao No w w'):cX w0 F b d n t k a nx M olds w':=h.map fun G hG=>hG.new hk
theorem cX.of (h:cX w0 F b d n t k a nx M olds w) (e:F=F'):cX w0 F' b d n t k a nx M olds w:=by subst e;exact h
theorem cX.mono (h:cX w0 F b d n t k a nx M olds w) {t' k':Nat} (ht:t<=t') (hk:k<=k'):cX w0 F b d n t' k' a nx M olds w:=by
 obtain⟨s,S,v,D,h1,h2,h3,h4⟩:=h;exact⟨s,S,v,D,h1.mono ht hk,h2,h3,h4⟩
theorem cX.drop {A:SP} (h:cX w0 (A*F) b d n t k a nx M olds w):cX w0 F b d n t k a nx M olds w:=h.map fun G hG=>hG.ay.right
theorem cX.gW (h:cX w0 F b d n t k a nx M olds w):M.Pairwise mO/\M.length<=t/\ ∀ p ∈ M,p.1.length<=200/\p.2.length<=20000:=by
 obtain⟨s,S,v,D,h1,h2,h3,h4⟩:=h;have h5:=h1.mem.uL;refine⟨h1.mem.gW,?_,rW h1.mem⟩;have:=h5.2.2.1;rw[<-h5.2.1,List.length_map];exact this
theorem JG (K:du) (hk:Rd w K.1 K.2.2) (ht:t<=1024) (h:cX w0 F b d n t k a nx M olds w):
 Calls Tryz.prog 32 #[.pointer (some ⟨b,0,none⟩),.slice K.1 K.2.2.length K.2.1] w fun x w'=> ∃ A c,x = .returned (.tuple #[.slice A ((bI K.2.2 M).getD []).length c,.bool (bI K.2.2 M).isSome])/\cX w0 (Row 5 1 (.slice A ((bI K.2.2 M).getD []).length c) ((bI K.2.2 M).getD []).length (((bI K.2.2 M).getD []).map bv)*F) b d n t k a nx M olds w':=by
 obtain⟨s,S,v,D,h1,h2,h3,h4⟩:=h;have h9:=Jn b d s v K hk h4 (by have:=h1.mem.len;omega);rw[h1.mem.tells] at h9;refine h9.mono ?_;rintro x w' ⟨A,c,rfl,hs⟩;exact⟨A,c,rfl,s,S,v,D,h1,h2,h3,hs.of (by ac_rfl)⟩
theorem Kd (f tt:du) (aG:Int) (hf:Rd w f.1 f.2.2) (ht':Rd w tt.1 tt.2.2) (ht:t<=1024) (h:cX w0 F b d n t k a nx M olds w):
 Calls Tryz.prog 24 #[.pointer (some ⟨b,0,none⟩),.slice f.1 f.2.2.length f.2.1,.slice tt.1 tt.2.2.length tt.2.1,.int .i64 aG] w fun x w'=> ∃ (es qs:List En) (B:Option Addr) (c:Nat),x = .returned (.slice B qs.length c)/\(∀ q ∈ qs,q ∈ es)/\qs.map (fun q=>cZ q.ak)=(oJ f.2.2 tt.2.2 M).take aG.toNat/\
  cX w0 (Row 65 2 (.slice B qs.length c) qs.length (qs.flatMap cL)*(aT es*F)) b d n t k a nx M olds w':=by
 obtain⟨s,S,v,D,h1,h2,h3,h4⟩:=h;have h9:=tU b d s v f tt aG hf ht' h4 (by have:=h1.mem.len;omega);rw[h1.mem.view] at h9;refine h9.mono ?_;rintro x w' ⟨es,qs,B,c,rfl,h5,h6,hs⟩;exact⟨es,qs,B,c,rfl,h5,h6,s,S,v,D,h1,h2,h3,hs.of (by ac_rfl)⟩
theorem Fq (ht:t<=1024) (h:cX w0 F b d n t k a nx M olds w):
 Calls Tryz.prog 31 #[.pointer (some ⟨b,0,none⟩)] w fun x w'=>x = .returned (.int .i64 (M.length:Nat))/\cX w0 F b d n t k a nx M olds w':=by
 obtain⟨s,S,v,D,h1,h2,h3,h4⟩:=h;have h9:=Dq b d s v h4 (by have:=h1.mem.len;omega);rw[h1.mem.view] at h9;exact h9.mono fun x w' ⟨h5,h6⟩=>⟨h5,s,S,v,D,h1,h2,h3,h6⟩
def Aj (olds:Int->Option (List Kv)) (nx:Nat) (M:List Kv):Int->Option (List Kv):=fun j=>if j=((nx:Nat):Int) then some M else olds j
theorem JE (hk:k<=10000) (h:cX w0 F b d n t k a nx M olds w):
 Calls Tryz.prog 41 #[.pointer (some ⟨b,0,none⟩)] w fun x w'=>x = .returned (.int .i64 (nx:Nat))/\cX w0 F b d n t (k+1) a (nx+1) M (Aj olds nx M) w':=by
 obtain⟨s,S,v,D,h1,h2,h3,h4⟩:=h;have hf:=h1.bP;have h9:=Hm b d s v h4 (by omega) (by omega);refine h9.mono ?_;rintro x w' ⟨rfl,hs⟩;subst h3;obtain⟨sf,lim,i,E,bs,q1,q2,q3,q4,q5,q6⟩:=h1.F7;refine⟨rfl,s,S,{ v with snaps:=fun j=>if j=((v.next:Nat):Int) then some v.seq else v.snaps j,bP:=v.bP+1,next:=v.next+1 },D,⟨⟨sf,lim,i,E,bs,q1,q2,q3,q4,by omega,by omega⟩,h1.mem,fun j=>?_,h1.cnt.mono (by omega),?_⟩,h2,rfl,hs⟩
 .by_cases hj:j=((v.next:Nat):Int)
  .refine .inr ⟨v.seq,M,?_,?_,Nat.le_refl _,h1.mem.gW,fun ky=>h1.mem.tells ky⟩
   .show (if j=((v.next:Nat):Int) then some v.seq else v.snaps j)=_;rw[if_pos hj]
   .unfold Aj;rw[if_pos hj]
  .rcases h1.snaps j with ⟨g1,g2⟩ | ⟨q,Mo,g1,g2,g3⟩
   .refine .inl ⟨?_,?_⟩
    .show (if j=((v.next:Nat):Int) then some v.seq else v.snaps j)=_;rw[if_neg hj,g1]
    .unfold Aj;rw[if_neg hj,g2]
   .refine .inr ⟨q,Mo,?_,?_,g3⟩
    .show (if j=((v.next:Nat):Int) then some v.seq else v.snaps j)=_;rw[if_neg hj,g1]
    .unfold Aj;rw[if_neg hj,g2]
 .show v.seq<=k+1/\v.bP+1<=k+1/\v.next+1<=k+1+1;omega
theorem I3 (i:Int) (K:du) (hi: -9223372036854775808<=i/\i<=9223372036854775807) (hk:Rd w K.1 K.2.2) (ht:t<=1024) (h:cX w0 F b d n t k a nx M olds w) (q:Option (List UInt8)) (er:Int) (hq:(olds i=none/\q=none/\er=104)\/ ∃ Mo,olds i=some Mo/\q=bI K.2.2 Mo/\er=0):
 Calls Tryz.prog 42 #[.pointer (some ⟨b,0,none⟩),.int .i64 i,.slice K.1 K.2.2.length K.2.1] w fun x w'=> ∃ A c,x = .returned (.tuple #[.slice A (q.getD []).length c,.bool q.isSome,.int .i64 er])/\cX w0 (Row 5 1 (.slice A (q.getD []).length c) (q.getD []).length ((q.getD []).map bv)*F) b d n t k a nx M olds w':=by
 obtain⟨s,S,v,D,h1,h2,h3,h4⟩:=h;refine(FM b d s v i K hi hk h4 (by have:=h1.mem.len;omega) q er ?_).mono ?_
 .rcases h1.snaps i with ⟨g1,g2⟩ | ⟨sq,Mo,g1,g2,g3,g4,g5⟩
  .rcases hq with ⟨q1,q2,q3⟩ | ⟨Mo,q1,q2,q3⟩
   .exact .inl ⟨g1,q2,q3⟩
   .rw[g2] at q1;cases q1
  .rcases hq with ⟨q1,q2,q3⟩ | ⟨Mo2,q1,q2,q3⟩
   .rw[g2] at q1;cases q1
   .rw[g2] at q1;injection q1 with q1
    subst q1;exact .inr ⟨sq,g1,by rw[q2,g5],q3⟩
 .rintro x w' ⟨A,c,rfl,hs⟩;exact⟨A,c,rfl,s,S,v,D,h1,h2,h3,hs.of (by ac_rfl)⟩
theorem FZ (A:Option Addr) (c:Nat) (ps:List Pu) (cs:List cE) (hcs:ps.map Pu.bq=cs) (hk:k<=10000) (ht:t+ps.length<=1024) (h:cX w0 F b d n t k 0 nx M olds w)
 (hb: ∀ W,Sat w0 F W->aF W A (ps.flatMap fI)/\gZ W ps) (hz: ∀ p ∈ ps,p.key.2.2.length<=1000000000/\p.value.2.2.length<=1000000000) (hc:dt cs=0) (hf:ev n (aZ cs M) cs=false):
 Calls Tryz.prog 20 #[.pointer (some ⟨b,0,none⟩),.slice A ps.length c] w fun x w'=>x = .returned (.int .i64 0)/\cX w0 F b d n (t+ps.length) (k+1) 0 nx (aZ cs M) olds w':=by
 subst hcs;obtain⟨s,S,v,D,h1,h2,h3,h4⟩:=h;refine(wP b d s v n t k D S M olds A c ps h1 hk ht (by omega) h4 hb hz).mono ?_;rintro x w' (⟨g1,_⟩ | ⟨g1,g2,_⟩ | ⟨g1,g2,rfl,S',D',v',g3,g4,g5,g6,g7,g8⟩ | ⟨_,_,_,g1,_⟩)
 .exact absurd hc g1
 .rw[hf] at g2;cases g2
 .rw[List.length_map] at g3;exact⟨rfl,s,S',v',D',g3,by omega,by omega,g8⟩
 .omega
theorem Ld (hk:k<=10000) (ht:t<=1024) (h:cX w0 F b d n t k 0 nx M olds w):
 Calls Tryz.prog 35 #[.pointer (some ⟨b,0,none⟩)] w fun x w'=>x = .returned (.int .i64 0)/\cX w0 F b d n t (k+1) 0 nx M olds w':=by
 obtain⟨s,S,v,D,h1,h2,h3,h4⟩:=h;refine(Ih b d s v n t k D S M olds h1 hk ht (by omega) h4).mono ?_;rintro x w' (⟨rfl,S',D',v',g3,g4,g5,g6,g7,g8⟩ | ⟨_,g1,_⟩)
 .exact⟨rfl,s,S',v',D',g3,by omega,by omega,g8⟩
 .omega
theorem JR (hk:k<=5000) (ht:t<=1024) (h:cX w0 F b d n t k 0 nx M olds w):
 Calls Tryz.prog 19 #[.pointer (some ⟨d,0,none⟩)] w fun x w'=> ∃ b',x = .returned (.tuple #[.pointer (some ⟨b',0,none⟩),.int .i64 0])/\cX w0 F b' d n t (k+2) 0 1 M (fun _=>none) w':=by
 obtain⟨s,S,v,D,h1,h2,h3,h4⟩:=h;obtain⟨S',e1,e2⟩:=h1.again (by omega);refine(rN d n t (k+1) D e2 e1 ht (by omega) (by omega) (h4.right.right)).mono ?_;rintro x w' ⟨M',hM,⟨b',s',S2,D2,v2,rfl,g1,g2,g3,g4,g5⟩ | ⟨_,g1,_⟩⟩
 .rw[List.mem_singleton] at hM;subst hM;exact⟨b',rfl,s',S2,v2,D2,g1,by omega,g4,g5⟩
 .omega
end
section
variable {w0 w w':World} {F F':SP} {b d n t k a nx:Nat} {M:List Kv} {olds:Int->Option (List Kv)}
theorem uq {e:TypeId} {B:Nat} {cs:Array Value} {W:World} (h:Sat w0 (Pt B e cs*F) W) {xs:List Value} (hx:cs.toList=xs):aF W (some ⟨B,0,none⟩) xs:=by
 subst hx;exact aF.je h.at (fun j hj=>by rw[Array.getElem?_toList.symm,List.getElem?_eq_getElem hj])
theorem cX.al (h:cX w0 F b d n t k a nx M olds w) (o:Obj):cX w0 (Ow w.heap.size o*F) b d n t k a nx M olds (w.alloc o):=h.map fun G hG=>(hG.alloc o).ay
theorem kY (x:Int) (w:World):Calls Tryz.prog 29 #[.int .i64 x] w fun e w'=>e = .returned (.int .i64 x)/\w=w':=by
 go_enter Tryz.func29, Tryz.ntmps29;go_wp2_with fail;go_ret;exact⟨rfl,rfl⟩
theorem oG (n:Nat) (h:64<=n/\n<=65536) (hs:Sat w0 F w):
 Calls Tryz.prog 25 #[.int .i64 (n:Int)] w fun e w'=> ∃ d b,e = .returned (.tuple #[.pointer (some ⟨d,0,none⟩),.pointer (some ⟨b,0,none⟩)])/\cX w0 F b d n 0 1 0 1 [] (fun _=>none) w':=by
 have HNew:Hid (Calls Tryz.prog 16 #[.int .i64 (n:Int)] w fun e w'=> ∃ d,e = .returned (.tuple #[.pointer (some ⟨d,0,none⟩),.int .i64 0])/\Sat w0 (af d (Dk.new n)*F) w'):=(Hx (n:Int) w0 w F hs).mono fun e w' h9=>by
  unfold FK at h9;rw[if_pos (by omega),Int.toNat_natCast] at h9;exact h9
 have HFo:Hid (∀ W d,Sat w0 (af d (Dk.new n)*F) W->Calls Tryz.prog 18 #[.pointer (some ⟨d,0,none⟩)] W fun e w'=>e = .returned (.int .i64 0)/\Hid (∃ D' S',cJ D'=(some S',0)/\Cz n 0 0 D' S' [[]]/\D'.armed=0/\Sat w0 (af d D'*F) w')):=fun W d hW=>
  wL d n 0 1 1 1 1 (Dk.new n) (fg n) (fun _=>0) h rfl (by unfold Dk.new;simp) (xG (by omega)) (zg (by omega) h.2) CN wV (by show 0<=_;omega) ⟨Nat.zero_le _,Nat.zero_le _⟩ BQ (by omega) (by omega) (by omega) hW
 have HOp:Hid (∀ W d,(∃ D' S',cJ D'=(some S',0)/\Cz n 0 0 D' S' [[]]/\D'.armed=0/\Sat w0 (af d D'*F) W)->Calls Tryz.prog 19 #[.pointer (some ⟨d,0,none⟩)] W fun e w'=> ∃ b,e = .returned (.tuple #[.pointer (some ⟨b,0,none⟩),.int .i64 0])/\cX w0 F b d n 0 1 0 1 [] (fun _=>none) w'):=fun W d ⟨D',S',h1,h2,h3,h4⟩=>by
  refine(rN d n 0 0 D' h2 h1 (by omega) (by omega) (by omega) h4).mono ?_;rintro x w' ⟨M',hM,⟨b',s',S2,D2,v2,rfl,g1,g2,g3,g4,g5⟩ | ⟨_,g1,_⟩⟩
  .rw[List.mem_singleton] at hM;subst hM;exact⟨b',rfl,s',S2,v2,D2,g1,by omega,g4,g5⟩
  .omega
 clear hs h;go_enter Tryz.func25, Tryz.ntmps25;go_wp2_with (first
  | (go_at_call 16;(with_reducible refine HNew.o.mono ?_);rintro e w2 ⟨d,rfl,hs⟩;have HS2:=ah hs;clear hs)
  | (go_at_call 29;(with_reducible refine(kY _ _).mono ?_);rintro e wx ⟨rfl,rfl⟩)
  | (go_at_call 18;(with_reducible refine(HFo.o _ _ HS2.o).mono ?_);rintro e w3 ⟨rfl,HS3⟩)
  | (go_at_call 19;(with_reducible refine(HOp.o _ _ HS3.o).mono ?_);rintro e w4 ⟨b,rfl,hs⟩;have HS4:=ah hs;clear hs))
 go_ret2;exact⟨d,b,rfl,HS4.o⟩
def Ed:List cE:=[⟨[97],[49],false⟩,⟨[98],[50],false⟩]
def F3:List cE:=[⟨[97],[],true⟩]
def Cc:List Kv:=[([97],[49]),([98],[50])]
def J4:List Kv:=[([98],[50])]
theorem Ix:aZ Ed []=Cc:=by decide
theorem Iz:aZ F3 Cc=J4:=by decide
theorem Kr:dt Ed=0:=by decide
theorem JO:dt F3=0:=by decide
theorem Kj:ev 1024 (aZ Ed []) Ed=false:=by rw[Ix];decide
theorem J3:ev 1024 (aZ F3 Cc) F3=false:=by rw[Iz];decide
abbrev xL (x:Int):Obj:= .cells #[.int .u8 x] 5 (1,2)
theorem Kl {k nx:Nat} (hk:k<=1000) (h:cX w0 F b d 1024 0 k 0 nx [] olds w):
 Calls Tryz.prog 20 #[.pointer (some ⟨b,0,none⟩),.slice (some ⟨w.heap.size+1+1+1+1,0,none⟩) 2 2] (((((w.alloc (xL 97)).alloc (xL 49)).alloc (xL 98)).alloc (xL 50)).alloc (.cells #[.slice (some ⟨w.heap.size,0,none⟩) 1 1,.slice (some ⟨w.heap.size+1,0,none⟩) 1 1,.bool false,.slice (some ⟨w.heap.size+1+1,0,none⟩) 1 1,.slice (some ⟨w.heap.size+1+1+1,0,none⟩) 1 1,.bool false] 43)) fun x w'=>x = .returned (.int .i64 0)/\cX w0 F b d 1024 2 (k+1) 0 nx Cc olds w':=by
 have h5:=((((h.al (xL 97)).al (xL 49)).al (xL 98)).al (xL 50)).al (.cells #[.slice (some ⟨w.heap.size,0,none⟩) 1 1,.slice (some ⟨w.heap.size+1,0,none⟩) 1 1,.bool false,.slice (some ⟨w.heap.size+1+1,0,none⟩) 1 1,.slice (some ⟨w.heap.size+1+1+1,0,none⟩) 1 1,.bool false] 43);simp only[World.size_alloc] at h5;generalize w.heap.size=g at*
 refine(FZ (some ⟨g+1+1+1+1,0,none⟩) 2 [⟨(some ⟨g,0,none⟩,1,[97]),(some ⟨g+1,0,none⟩,1,[49]),false⟩,⟨(some ⟨g+1+1,0,none⟩,1,[98]),(some ⟨g+1+1+1,0,none⟩,1,[50]),false⟩] Ed rfl (by omega) (by show 0+2<=1024;omega) h5 (fun W hW=>⟨uq hW rfl,fun p hp=>?_⟩) (fun p hp=>?_) Kr Kj).mono ?_
 .rcases List.mem_cons.1 hp with rfl | hp
  .exact⟨kI (l:=[97]) hW.fN,kI (l:=[49]) hW.bL⟩
  .rw[List.mem_singleton] at hp;subst hp;exact⟨kI (l:=[98]) hW.bp,kI (l:=[50]) hW.ay⟩
 .rcases List.mem_cons.1 hp with rfl | hp
  .exact⟨by show 1<=_;omega,by show 1<=_;omega⟩
  .rw[List.mem_singleton] at hp;subst hp;exact⟨by show 1<=_;omega,by show 1<=_;omega⟩
 .rintro x w' ⟨rfl,h6⟩;rw[Ix] at h6;exact⟨rfl,h6.drop.drop.drop.drop.drop⟩
theorem JT {k nx:Nat} (hk:k<=1000) (h:cX w0 F b d 1024 2 k 0 nx Cc olds w):
 Calls Tryz.prog 20 #[.pointer (some ⟨b,0,none⟩),.slice (some ⟨w.heap.size+1,0,none⟩) 1 1] ((w.alloc (xL 97)).alloc (.cells #[.slice (some ⟨w.heap.size,0,none⟩) 1 1,.slice none 0 0,.bool true] 43)) fun x w'=>x = .returned (.int .i64 0)/\cX w0 F b d 1024 3 (k+1) 0 nx J4 olds w':=by
 have h5:=(h.al (xL 97)).al (.cells #[.slice (some ⟨w.heap.size,0,none⟩) 1 1,.slice none 0 0,.bool true] 43);simp only[World.size_alloc] at h5;generalize w.heap.size=g at*
 refine(FZ (some ⟨g+1,0,none⟩) 1 [⟨(some ⟨g,0,none⟩,1,[97]),(none,0,[]),true⟩] F3 rfl (by omega) (by show 2+1<=1024;omega) h5 (fun W hW=>⟨uq hW rfl,fun p hp=>?_⟩) (fun p hp=>?_) JO J3).mono ?_
 .rw[List.mem_singleton] at hp;subst hp;exact⟨kI (l:=[97]) hW.ay,Rd.nil _ _⟩
 .rw[List.mem_singleton] at hp;subst hp;exact⟨by show 1<=_;omega,by show 0<=_;omega⟩
 .rintro x w' ⟨rfl,h6⟩;rw[Iz] at h6;exact⟨rfl,h6.drop.drop⟩
theorem yc {x:UInt8} (hx:bI [x] M=none) (ht:t<=1024) (h:cX w0 F b d n t k a nx M olds w) (g:Int) (hg:g=x.toNat):
 Calls Tryz.prog 32 #[.pointer (some ⟨b,0,none⟩),.slice (some ⟨w.heap.size,0,none⟩) 1 1] (w.alloc (xL g)) fun e w'=> ∃ A c,e = .returned (.tuple #[.slice A 0 c,.bool false])/\cX w0 F b d n t k a nx M olds w':=by
 subst hg;have h5:=h.al (xL x.toNat);refine(JG (some ⟨w.heap.size,0,none⟩,1,[x]) (kI (l:=[x]) h5.sat) ht h5).mono ?_;rintro e w' ⟨A,c,rfl,h6⟩;rw[hx] at h6 ⊢;exact⟨A,c,rfl,h6.drop.drop⟩
theorem vW {x:UInt8} {v:List UInt8} (hx:bI [x] M=some v) (ht:t<=1024) (h:cX w0 F b d n t k a nx M olds w) (g:Int) (hg:g=x.toNat) (m:Nat) (hm:v.length=m):
 Calls Tryz.prog 32 #[.pointer (some ⟨b,0,none⟩),.slice (some ⟨w.heap.size,0,none⟩) 1 1] (w.alloc (xL g)) fun e w'=> ∃ A c,e = .returned (.tuple #[.slice A m c,.bool true])/\cX w0 (Row 5 1 (.slice A v.length c) v.length (v.map bv)*F) b d n t k a nx M olds w':=by
 subst hg;subst hm;have h5:=h.al (xL x.toNat);refine(JG (some ⟨w.heap.size,0,none⟩,1,[x]) (kI (l:=[x]) h5.sat) ht h5).mono ?_;rintro e w' ⟨A,c,rfl,h6⟩;rw[hx] at h6 ⊢;exact⟨A,c,rfl,(h6.map fun G hG=>hG.bp.right:cX w0 _ b d n t k a nx M olds w')⟩
theorem ze {x:UInt8} {v:List UInt8} {Mo:List Kv} (i:Int) (hi: -9223372036854775808<=i/\i<=9223372036854775807) (ho:olds i=some Mo) (hx:bI [x] Mo=some v) (ht:t<=1024) (h:cX w0 F b d n t k a nx M olds w) (g:Int) (hg:g=x.toNat) (m:Nat) (hm:v.length=m):
 Calls Tryz.prog 42 #[.pointer (some ⟨b,0,none⟩),.int .i64 i,.slice (some ⟨w.heap.size,0,none⟩) 1 1] (w.alloc (xL g)) fun e w'=> ∃ A c,e = .returned (.tuple #[.slice A m c,.bool true,.int .i64 0])/\cX w0 (Row 5 1 (.slice A v.length c) v.length (v.map bv)*F) b d n t k a nx M olds w':=by
 subst hg;subst hm;have h5:=h.al (xL x.toNat);refine(I3 i (some ⟨w.heap.size,0,none⟩,1,[x]) hi (kI (l:=[x]) h5.sat) ht h5 (some v) 0 (.inr ⟨Mo,ho,hx.symm,rfl⟩)).mono ?_;rintro e w' ⟨A,c,rfl,h6⟩;exact⟨A,c,rfl,(h6.map fun G hG=>hG.bp.right:cX w0 _ b d n t k a nx M olds w')⟩
theorem AG {A:Option Addr} {c:Nat} {v:List UInt8} {W:World} (h:Sat w0 (Row 5 1 (.slice A v.length c) v.length (v.map bv)*F) W):(convert 41 9 (.slice A v.length c)).run Tryz.prog W = .ok (.string ⟨v.toArray⟩) W:=
 Rd.str (P:= Tryz.prog) h.cj 41 9 5 Tryz.underlying41 Tryz.underlying5 Tryz.underlying9 c
theorem zn (W:World) (C:Array Value) (n c g:Nat) (hg:g=W.heap.size):(convert 41 41 (.slice (some ⟨g,0,none⟩) n c)).run Tryz.prog (W.alloc (.cells C 5)) = .ok (.slice (some ⟨g,0,none⟩) n c) (W.alloc (.cells C 5 (C.size,C.size+1))):=by
 subst hg;exact Lib.run_convert_bytes_const (P:= Tryz.prog) W 41 5 C n c Tryz.underlying41 Tryz.underlying5
theorem wB (hs:Sat w0 F w):Calls Tryz.prog 26 #[] w fun e w'=>e = .returned (.bool true)/\Sat w0 F w':=by
 have HB:Hid (Calls Tryz.prog 25 #[.int .i64 1024] w fun e w'=> ∃ d b,e = .returned (.tuple #[.pointer (some ⟨d,0,none⟩),.pointer (some ⟨b,0,none⟩)])/\cX w0 F b d 1024 0 1 0 1 [] (fun _=>none) w'):=oG (w0:=w0) (w:=w) (F:=F) 1024 (by omega) hs;have hcv:=zn;clear hs;go_enter Tryz.func26, Tryz.ntmps26;go_upto_region 4 with (go_at_call 25;(with_reducible refine HB.o.mono ?_);rintro e w2 ⟨d,b,rfl,hs⟩;have HS2:=ah hs;clear hs)
 go_upto_region 6 with (first
  | (go_at_call 20;(with_reducible refine(Kl (by omega) HS2.o).mono ?_);rintro e w3 ⟨rfl,hs⟩;have HS3:=ah hs;clear hs)
  | (go_at_call 41;(with_reducible refine(JE (by omega) HS3.o).mono ?_);rintro e w4 ⟨rfl,hs⟩;have HS4:=ah hs;clear hs))
 go_upto_region 7 with (go_at_call 20;(with_reducible refine(JT (by omega) HS4.o).mono ?_);rintro e w5 ⟨rfl,hs⟩;have HS5:=ah hs;clear hs)
 go_upto_region 9 with (first
  | (go_at_call 32;(with_reducible refine(yc (x:=97) (by decide) (by omega) HS5.o 97 (by decide)).mono ?_);rintro e w6 ⟨A6,c6,rfl,hs⟩;have HS6:=ah hs;clear hs)
  | (go_at_call 42;(with_reducible refine(ze (x:=97) (v:=[49]) (Mo:=Cc) 1 (by omega) rfl (by decide) (by omega) HS6.o 97 (by decide) 1 rfl).mono ?_);rintro e w7 ⟨A7,c7,rfl,hs⟩;have HS7:=ah hs;clear hs))
 go_upto_region 13 with (first
  | (go_at_call 19;(with_reducible refine(JR (by omega) (by omega) HS7.o).mono ?_);rintro e w8 ⟨b2,rfl,hs⟩;have HS8:=ah hs;clear hs)
  | (go_at_call 29;(with_reducible refine(kY _ _).mono ?_);rintro e wx ⟨rfl,rfl⟩)
  | (go_at_call 32;(with_reducible refine(vW (x:=98) (v:=[50]) (by decide) (by omega) HS8.o 98 (by decide) 1 rfl).mono ?_);rintro e w9 ⟨A9,c9,rfl,hs⟩;have HS9:=ah hs;clear hs))
 obtain⟨SA,hSA⟩: ∃ SA,SA=ByteArray.mk [49].toArray:=⟨_,rfl⟩;obtain⟨SB,hSB⟩: ∃ SB,SB=ByteArray.mk [50].toArray:=⟨_,rfl⟩;have s1:(convert 41 9 (.slice A7 1 c7)).run Tryz.prog w9 = .ok (.string SA) w9:=by rw[hSA];exact AG (v:=[49]) HS9.o.sat.right
 have s2:(convert 41 9 (.slice A9 1 c9)).run Tryz.prog w9 = .ok (.string SB) w9:=by rw[hSB];exact AG (v:=[50]) HS9.o.sat
 have hc1:(SA.toList==[49])=true:=by
  have h9:SA.toList=[49]:=by rw[hSA];simp
  rw[h9];rfl
 have hc2:(SB.toList==[50])=true:=by
  have h9:SB.toList=[50]:=by rw[hSB];simp
  rw[h9];rfl
 clear hSA hSB;go_wp2_with (first
  | (go_at_call 29;(with_reducible refine(kY _ _).mono ?_);rintro e wx ⟨rfl,rfl⟩)
  | (go_at_call 31;(with_reducible refine(Fq (by omega) HS9.o).mono ?_);rintro e w10 ⟨rfl,hs⟩;have HS10:=ah hs;clear hs))
 go_ret;exact⟨rfl,HS10.o.sat.right.right⟩
end
theorem Eu (k:List UInt8):Op.bytesLess k []=false:=by rw[il];cases k<;>rfl
theorem G6 (k:List UInt8):Iq [] [] k=true:=by
 unfold Iq;rw[Eu];rfl
theorem FN (M:List Kv):oJ [] [] M=M:=by
 unfold oJ;rw[List.filter_eq_self];exact fun p _=>G6 p.1
theorem IY {k:Nat} (h:k<=255):bv (UInt8.ofNat k) = .int .u8 (k:Int):=by
 unfold bv;rw[UInt8.toNat_ofNat',Nat.mod_eq_of_lt (by omega)]
section
variable {w0 w w':World} {F F' A:SP} {b d n t k a nx:Nat} {M:List Kv} {olds:Int->Option (List Kv)} {B:Option Addr} {c:Nat} {qs es:List En}
def yf (F:SP) (B:Option Addr) (qs:List En):Prop:= ∀ (w0 w:World),Sat w0 F w->aF w B (qs.flatMap cL)/\jG w qs
theorem yf.left (h:yf F B qs):yf (A*F) B qs:=fun w0 w hs=>h w0 w hs.right
def CL (B:Option Addr) (c:Nat) (qs es:List En):SP:=Row 65 2 (.slice B qs.length c) qs.length (qs.flatMap cL)*aT es
theorem IZ (h: ∀ q ∈ qs,q ∈ es):yf (CL B c qs es*F) B qs:=fun w0 w hs=>by
 have h1:=hs.of (aB _ _ _);exact⟨h1.cj,fun q hq=>fO h1.right q (h q hq)⟩
theorem Gs (e:En):(cL e).length=2:=rfl
theorem dx (es:List En):(es.flatMap cL).length=es.length*2:=dD Gs es
theorem gX (es:List En): ∀ u ∈ es.flatMap cL,u.oneCell'=true:=fun u hu=>by
 obtain⟨e,_,h⟩:=List.mem_flatMap.1 hu;simp[cL] at h;rcases h with rfl | rfl<;>rfl
theorem lT (qs:List En) (m:Nat):aY (qs.take m)=(aY qs).take m:=by unfold aY;rw[List.map_take]
theorem js (qs fs:List En):aY (qs++fs)=aY qs++aY fs:=by unfold aY;rw[List.map_append]
theorem cX.KW (h:cX w0 F b d n t k a nx M olds w): ∃ G,Sat w0 (F*G) w/\ ∀ F' w',Sat w0 (F'*G) w'->cX w0 F' b d n t k a nx M olds w':=by
 obtain⟨s,S,v,D,h1,h2,h3,h4⟩:=h;refine⟨dG b d s v*(ag s d S*af d D),h4.of (by ac_rfl),fun F' w' h'=>⟨s,S,v,D,h1,h2,h3,h'.of (by ac_rfl)⟩⟩
theorem IK (f tt:du) (aG:Int) (M':List Kv) (hm:(oJ f.2.2 tt.2.2 M).take aG.toNat=M') (hf:Rd w f.1 f.2.2) (ht':Rd w tt.1 tt.2.2) (ht:t<=1024) (h:cX w0 F b d n t k a nx M olds w):
 Calls Tryz.prog 24 #[.pointer (some ⟨b,0,none⟩),.slice f.1 f.2.2.length f.2.1,.slice tt.1 tt.2.2.length tt.2.1,.int .i64 aG] w fun x w'=> ∃ (B:Option Addr) (c:Nat) (qs es:List En),x = .returned (.slice B qs.length c)/\aY qs=M'/\(∀ q ∈ qs,q ∈ es)/\qs.length<=c/\cX w0 (CL B c qs es*F) b d n t k a nx M olds w':=by
 refine(Kd f tt aG hf ht' ht h).mono ?_;rintro x w' ⟨es,qs,B,c,rfl,h1,h2,h3⟩;have h5:qs.length<=c:=by
  obtain⟨A',c',e,h4,_⟩:=h3.sat.bm;injection e with e1 e2 e3
  omega
 exact⟨B,c,qs,es,rfl,h2.trans hm,h1,h5,h3.of (by unfold CL;ac_rfl)⟩
theorem xZ {qs fs:List En} {B C:Option Addr} {c c':Nat} (h1:yf F B qs) (h2:yf F C fs) (he:aY qs=aY fs) (hn:qs.length<=1000000) (h:cX w0 F b d n t k a nx M olds w):
 Calls Tryz.prog 23 #[.slice B qs.length c,.slice C fs.length c'] w fun x w'=>x = .returned (.bool true)/\cX w0 F b d n t k a nx M olds w':=by
 obtain⟨a1,a2⟩:=h1 _ _ h.sat;obtain⟨b1,b2⟩:=h2 _ _ h.sat;refine(CY B C c c' qs fs w a1 a2 b1 b2 hn).mono ?_;rintro x w' ⟨rfl,hk⟩;rw[decide_eq_true he];exact⟨rfl,h.new hk⟩
end
structure K5 where
 op:Int
 n:Int
 bA:Option Addr
 bc:Nat
 ps:List Pu
 key:du
 too:du
 kA:Option Addr
 kc:Nat
 keep:List Bool
 torn:Int
 cut:Int
end Go.Proofs.YtmbaiglpgaoogaaGreat
namespace Go.Proofs.YtmbaiglpgaoogaaGreat
open Go.RowKit Go.ChangeShapes Go.WideShapes Go.Deep Z
instance:Inhabited Pu:=⟨⟨(none,0,[]),(none,0,[]),false⟩⟩
instance:Inhabited K5:=⟨⟨0,0,none,0,[],(none,0,[]),(none,0,[]),none,0,[],0,0⟩⟩
end Go.Proofs.YtmbaiglpgaoogaaGreat
namespace Go.Proofs.YtmbaiglpgaoogaaGreat
open Go.RowKit Z
def cq (es:List En):List du:=es.flatMap fun e=>[e.key,e.value]
def KO (v:Value) (n:Nat):Prop:= ∃ A c,v = .slice A n c/\n<=c/\c<=maxLen/\((A=none/\c=0)\/ ∃ g,A=some ⟨g,0,none⟩)
def G8:Value->Option Addr
 | .slice A _ _=>A
 | _=>none
def fw (v:Value) (es:List En):SP:=SP.and (KO v es.length) (Ro (G8 v) (es.flatMap cL)*cd (cq es))
def qB (v:Value) (M:List Kv):SP:=fun h=> ∃ es,aY es=M/\fw v es h
section
variable {w0 w w':World} {F:SP} {v:Value} {M:List Kv} {es fs:List En}
theorem Sat.mp (h:Sat w0 (qB v M*F) w): ∃ es,aY es=M/\Sat w0 (fw v es*F) w:=by
 obtain⟨c,x,h1,a,g,h2,h3,⟨es,h4,h5⟩,h8⟩:=h;exact⟨es,h4,⟨c,x,h1,a,g,h2,h3,h5,h8⟩⟩
theorem Sat.Jw (h:Sat w0 (fw v es*F) w) (he:aY es=M):Sat w0 (qB v M*F) w:=by
 obtain⟨c,x,h1,a,g,h2,h3,h5,h8⟩:=h;exact⟨c,x,h1,a,g,h2,h3,⟨es,he,h5⟩,h8⟩
theorem Sat.xi (h:Sat w0 (fw v es*F) w):KO v es.length/\Sat w0 (Ro (G8 v) (es.flatMap cL)*(cd (cq es)*F)) w:=by
 obtain⟨p,h1⟩:=Sat.pure h;exact⟨p,h1.of (aB ..)⟩
theorem Sat.zH (p:KO v es.length) (h:Sat w0 (Ro (G8 v) (es.flatMap cL)*(cd (cq es)*F)) w):Sat w0 (fw v es*F) w:=Sat.Kq p (h.of (aB ..).symm)
theorem Sat.zV (h:Sat w0 (fw v es*F) w):Sat w0 (fw v es*(fw v es*F)) w:=by
 obtain⟨p,h1⟩:=h.xi;have e:Ro (G8 v) (es.flatMap cL)*(cd (cq es)*F)=(Ro (G8 v) (es.flatMap cL)*Ro (G8 v) (es.flatMap cL))*((cd (cq es)*cd (cq es))*F):=by rw[IL,Aw]
 have h2:Sat w0 (Ro (G8 v) (es.flatMap cL)*(cd (cq es)*(Ro (G8 v) (es.flatMap cL)*(cd (cq es)*F)))) w:=h1.of (e.trans (by ac_rfl));have h3:=Sat.zH p h2;have h4:Sat w0 (Ro (G8 v) (es.flatMap cL)*(cd (cq es)*(fw v es*F))) w:=h3.of (by ac_rfl);exact Sat.zH p h4
theorem Sat.oW (h:Sat w0 (fw v es*F) w):Sat w0 (cd (cq es)*(fw v es*F)) w:=by
 obtain⟨p,h1⟩:=h.zV.xi;exact h1.right
theorem Sat.tQ {n:Nat} (h:Sat w0 (Row 65 2 v n (es.flatMap cL)*(cd (cq es)*F)) w) (hn:es.length=n):Sat w0 (fw v es*F) w:=by
 subst hn;obtain⟨hl,⟨rfl,e2,h1⟩ | ⟨g,cap,cur,rfl,h1,h2,h3,h4,h5⟩⟩:=h.cu
 .have e3:es.flatMap cL=[]:=List.eq_nil_of_length_eq_zero (by rw[hl,e2]);refine Sat.zH ⟨none,0,by rw[e2],by omega,Nat.zero_le _,.inl ⟨rfl,rfl⟩⟩ ?_;rw[e3];exact h1.Fe _
 .refine Sat.zH ⟨_,_,rfl,h1,h2,.inr ⟨g,rfl⟩⟩ ?_;refine h5.Jg fun j hj=>?_
  have:(es.flatMap cL)[j]?=some (es.flatMap cL)[j]:=List.getElem?_eq_getElem hj;rw[Nat.zero_add, <-this, <-h4,List.getElem?_take,if_pos (by rw[<-hl];exact hj)];simp
theorem F8 (h:Sat w0 (cd (cq es)*F) w):jG w es:=fun e he=>by
 have m: ∀ y,y ∈ [e.key,e.value]->y ∈ cq es:=fun y hy=>List.mem_flatMap.2 ⟨e,he,hy⟩
 exact⟨h.F4 (m _ (by simp)),h.F4 (m _ (by simp))⟩
theorem Sat.tO (h:Sat w0 (fw v es*F) w):jG w es:=F8 h.oW
theorem Sat.zY (h:Sat w0 (fw v es*F) w): ∃ A c,v = .slice A es.length c/\es.length<=c/\c<=maxLen:=by
 obtain⟨⟨A,c,h1,h2,h3,_⟩,_⟩:=h.xi;exact⟨A,c,h1,h2,h3⟩
theorem Sat.Kp {A:Option Addr} {n c:Nat} (h:Sat w0 (fw (.slice A n c) es*F) w):(A=none/\es.length=0/\c=0)\/ ∃ g,A=some ⟨g,0,none⟩:=by
 obtain⟨⟨B,d,h1,h2,h3,h4⟩,_⟩:=h.xi;injection h1 with e1 e2 e3
 subst e1;rcases h4 with ⟨h4,h5⟩ | h4
 .exact .inl ⟨h4,by omega,by omega⟩
 .exact .inr h4
theorem Sat.kL {A:Option Addr} {c:Nat} (h:Sat w0 (fw (.slice A es.length c) es*F) w):aF w A (es.flatMap cL):=h.xi.2.rdv
theorem Sat.II (h:Sat w0 F w):Sat w0 (qB (.slice none 0 0) []*F) w:=by
 refine Sat.Jw (es:=[]) ?_ rfl;exact Sat.tQ (n:=0) ((h.mj (cq []) (fun r hr=>by cases hr)).aN 65 2) rfl
theorem sJ (h: ∀ e ∈ fs,e ∈ es): ∀ r ∈ cq fs,r ∈ cq es:=fun r hr=>by
 obtain⟨e,he,h1⟩:=List.mem_flatMap.1 hr;exact List.mem_flatMap.2 ⟨e,h e he,h1⟩
theorem BZ (h:Sat w0 (qB v M*F) w) (hl:M.length<=100000):
 Calls Tryz.prog 28 #[.agg #[v]] w fun e w'=> ∃ v',e = .returned (.agg #[v'])/\Sat w0 (qB v' M*(qB v M*F)) w':=by
 obtain⟨es,he,h1⟩:=h.mp;obtain⟨A,c,rfl,hc1,hc2⟩:=h1.zY;have hel:es.length<=100000:=by rw[<-bX,he];exact hl
 obtain⟨j0,hj,hy0,hy1,hy2⟩:=info_parts uD;have Hj:=ah hj;have Hy0:=ah hy0;have Hy1:=ah hy1;have Hy2:=ah hy2;have h2:=((h1.bO (b:=w.heap.size) 32 #[.slice A es.length c] rfl).bO (b:=w.heap.size+1) 32 #[.slice none 0 0] (by simp)).bO (b:=w.heap.size+1+1) 32 #[.slice none 0 0] (by simp);have HE:=ah he;clear h h1 he hj hy0 hy1 hy2 hl hc1 hc2;go_enter Tryz.func28, Tryz.ntmps28;go_upto_region 2 with fail;revert h2;generalize ((w.alloc _).alloc _).alloc _=W;intro h2;generalize w.heap.size=E at*
 have x0:=h2.cell 0;have x1:=h2.bp.cell 0;have HS:=ah ((h2.of (show _=fw (.slice A es.length c) es*(Pt (E+1+1) 32 #[.slice none 0 0]*(Pt (E+1) 32 #[.slice none 0 0]*(Pt E 32 #[.slice A es.length c]*F))) by ac_rfl)).aN 65 2);clear h2;go_upto_region 3 with (at_builtin;refine av rfl (.tmp 5) (.tmp 7) 30 rfl 65 j0 _ 2 48 Tryz.underlying30 Hj.o Hy0.o Hy1.o Hy2.o rfl (by decide) (.slice none 0 0) 0 [] rfl w0 _ (by exact HS.o) A es.length c (es.flatMap cL) rfl (by exact HS.o.right.kL) (dx es) (gX es) (by unfold maxLen;omega) (by omega) ?_;intro B4 c4 w4 hs4;simp only[Nat.zero_add,List.nil_append] at hs4 ⊢;have HS4:=ah hs4;have f0:=hs4.bp.frozen 0;have y0:=hs4.bp.cell 0;clear hs4)
 have h5:=HS4.o.bp.set 0 (.slice B4 es.length c4);revert h5;generalize w4.setCell _ _=W5;intro h5;clear f0 y0 x0 x1;have x0:W5.cell? ⟨E+1+1,0,none⟩=some (.slice B4 es.length c4):=h5.cell 0;have x1:=h5.bL.cell 0;have f1:=h5.bL.frozen 0;have h6:=h5.bL.set 0 (.slice B4 es.length c4);go_wp2_with fail;revert h6;generalize World.setCell _ _ _=W6;intro h6;refine bodyPost_ret (results_cell_row (p:=2) (by kernel_rfl) _ _ (E+1) 32 _ (0,0) _ rfl h6.at Tryz.underlying32 rfl (by kernel_rfl)) rfl ?_;refine⟨.slice B4 es.length c4,rfl,?_⟩;have h7:=h6.right.right;have h8:=(h7.of (show _=Pt E 32 #[.slice A es.length c]*(fw (.slice A es.length c) es*(Row 65 2 (.slice B4 es.length c4) es.length (es.flatMap cL)*F)) by ac_rfl)).right.oW;have h9:Sat w0 (fw (.slice B4 es.length c4) es*(fw (.slice A es.length c) es*F)) W6:=Sat.tQ (h8.of (by ac_rfl)) rfl;exact((h9.Jw HE.o).ay.Jw HE.o).ay
theorem sO {es:List En} {i:Nat} (hi:i<es.length):cI (aY (es.take (i+1)))=cI (aY (es.take i))+es[i].key.2.2.length+es[i].value.2.2.length+40:=by
 rw[lT,ko hi, <-lT];unfold cI;rw[List.map_append,List.sum_append];show _+(es[i].key.2.2.length+es[i].value.2.2.length+40+0)=_;omega
theorem uU {es:List En} (hz: ∀ e ∈ es,e.key.2.2.length<=1000/\e.value.2.2.length<=100000): ∀ i,i<=es.length->cI (aY (es.take i))<=i*101040
 | 0,_=>Nat.zero_le _
 | i+1,h=>by
  have h1:=uU hz i (by omega);have h2:=hz _ (List.getElem_mem (show i<es.length by omega));rw[sO (by omega)];omega
theorem zb {A:Option Addr} {c:Nat} (h:Sat w0 (fw (.slice A es.length c) es*F) w) (hl:es.length<=100000) (hz: ∀ e ∈ es,e.key.2.2.length<=1000/\e.value.2.2.length<=100000):
 Calls Tryz.prog 30 #[.agg #[.slice A es.length c]] w fun e w'=>e = .returned (.int .i64 (cI (aY es):Nat))/\Sat w0 (fw (.slice A es.length c) es*F) w':=by
 have h2:=h.bO (b:=w.heap.size) 32 #[.slice A es.length c] rfl;have HZ:=ah hz;clear h hz;go_enter Tryz.func30, Tryz.ntmps30;go_upto_region 1 with fail;revert h2;generalize w.alloc _=W;intro h2;generalize w.heap.size=E at*
 have HS:=ah h2;clear h2;go_wp2_with fail;go_loopw [3,4] (fun nv iv wr=> ∃ (i n:Nat),i<=es.length/\iv = .int .i64 (i:Int)/\nv = .int .i64 (n:Int)/\Hid (n=cI (aY (es.take i))/\Sat w0 (Pt E 32 #[.slice A es.length c]*(fw (.slice A es.length c) es*F)) wr)) (fun _ iv _=>es.length - (intOf iv).toNat)
 case atStart=>exact⟨0,0,by omega,rfl,rfl,rfl,HS.o⟩
 case round=>
  obtain⟨i,n,hi,rfl,rfl,HD⟩:=hrel;have x0:wr.cell? ⟨E,0,none⟩=some (.slice A es.length c):=HD.o.2.cell 0;by_cases hlt:i<es.length
  .obtain⟨lb,lo,rfl,hq⟩:=nc HD.o.2.ay.kL (by omega);obtain⟨y0,y1⟩:=hq i hlt;have hnb:n<=i*101040:=by rw[HD.o.1];exact uU HZ.o i hi
   have hzi:=HZ.o _ (List.getElem_mem hlt);have HT:=ah (sO hlt);clear hq;generalize es[i]=p at*
   obtain⟨⟨kA,kc,kl⟩,⟨vA,vc,vl⟩,eq1,dd1⟩:=p;replace y0:_=some (Value.slice kA kl.length kc):=y0;replace y1:_=some (Value.slice vA vl.length vc):=y1;obtain⟨hz1,hz2⟩:=hzi;replace hz1:kl.length<=1000:=hz1;replace hz2:vl.length<=100000:=hz2;have hii:(i:Int)<es.length:=by omega
   have hn5:n<=10104000000:=by omega
   have w1:IntKind.i64.wrap ((n:Int)+kl.length)=(n:Int)+kl.length:=by rw[IntKind.wrap_i64];omega
   have w2:IntKind.i64.wrap ((n:Int)+kl.length+vl.length)=(n:Int)+kl.length+vl.length:=by rw[IntKind.wrap_i64];omega
   have w3:IntKind.i64.wrap ((n:Int)+kl.length+vl.length+40)=(n:Int)+kl.length+vl.length+40:=by rw[IntKind.wrap_i64];omega
   have G0:Hid (wr.drew.cell? ⟨E,0,none⟩=some (.slice (some ⟨lb,lo,none⟩) es.length c)/\wr.drew.cell? ⟨lb,lo+i*2,none⟩=some (.slice kA kl.length kc)/\wr.drew.cell? ⟨lb,lo+i*2+1,none⟩=some (.slice vA vl.length vc)):=ah ⟨x0,y0,y1⟩;clear hnb;go_upto_region 5 with fail;refine wp_region_held_drew (S:=fun w'=>w'.cell? ⟨E,0,none⟩=some (.slice (some ⟨lb,lo,none⟩) es.length c)/\w'.cell? ⟨lb,lo+i*2,none⟩=some (.slice kA kl.length kc)/\w'.cell? ⟨lb,lo+i*2+1,none⟩=some (.slice vA vl.length vc)) (by kernel_rfl) G0.o ?_;intro hS0;refine an 0 1 2 3 ?_;refine an 4 5 6 7 ?_;refine an 8 9 10 11 ?_;refine an 12 13 14 15 ?_;refine cw 16 17 ?_;refine ca 18 ?_;refine wpAnyH_done (by kernel_rfl) ?_ _;go_wp2_with fail;go_roundw
   .refine⟨i+1,n+kl.length+vl.length+40,by omega,by push_cast;rfl,by congr 1,?_,HD.o.2.drew⟩;rw[HT.o,HD.o.1]
   .simp[intOf];omega
  .have hie:i=es.length:=by omega
   subst hie;have HN:Hid (n=cI (aY es)):=ah (by rw[HD.o.1,List.take_length]);clear hlt;go_wp2_with fail;go_ret;refine⟨?_,HD.o.2.right⟩;rw[HN.o];rfl
end
end Go.Proofs.YtmbaiglpgaoogaaGreat
