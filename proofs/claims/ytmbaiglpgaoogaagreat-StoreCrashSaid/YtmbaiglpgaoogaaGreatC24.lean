/- Joined, as they were built one by one: StpD Sto14 StpG Sto10 StpF StpH StpI Sto12 Sto15 Sto26. -/
import Derived.Test.YtmbaiglpgaoogaaGreatC02
import Derived.Test.YtmbaiglpgaoogaaGreatC08
import Derived.Test.YtmbaiglpgaoogaaGreatC11
import Derived.Test.YtmbaiglpgaoogaaGreatC14
import Derived.Test.YtmbaiglpgaoogaaGreatC19
import Derived.Test.YtmbaiglpgaoogaaGreatC20
import Derived.Test.YtmbaiglpgaoogaaGreatC22
set_option maxHeartbeats 16000000
set_option linter.unusedVariables false
set_option maxRecDepth 100000
namespace Go.Proofs.YtmbaiglpgaoogaaGreat
open Go.RowKit Z
section
variable {D:Dk} {S:aN} {sf:Nat->Nat} {lim:Nat} {add:List Fi} {drop:List Int} {fs:List Fl}
inductive NM (S:aN) (D:Dk) (sf:Nat->Nat) (lim:Nat) (add:List Fi) (fs:List Fl) (r:aN × Dk × Int):Prop where
 | ok (D':Dk) (e:r=(⟨1 - S.slot,S.turn+1,fs⟩,D',0)) (g:Good D' ⟨1 - S.slot,S.turn+1,fs⟩ (dw fs) (lim+1)) (c: ∀ m,dA D m->dA D' (m+1)) (l:D'.cells.length=D.cells.length) (a:D'.armed<=D.armed)
 | off (ha:D.armed≠0) (D':Dk) (e:r=(S,D',21)) (o:D'.off=true) (c: ∀ m,dA D m->dA D' (m+1)) (l:D'.cells.length=D.cells.length)
  (f: ∀ keep torn bytes,(∃ fs',cP (D'.bS keep torn bytes)=(some ⟨S.slot,S.turn,fs'⟩,0)/\fU sf S.files fs'/\Good (D'.bS keep torn bytes) ⟨S.slot,S.turn,fs'⟩ (dw fs') (lim+1))\/
   (∃ fs',cP (D'.bS keep torn bytes)=(some ⟨1 - S.slot,S.turn+1,fs'⟩,0)/\fU (fun num=>if (num:Int) ∈ add.map (·.num) then 0 else sf num) fs fs'/\Good (D'.bS keep torn bytes) ⟨1 - S.slot,S.turn+1,fs'⟩ (dw fs') (lim+2)))
theorem qU (hg:Good D S sf lim) (hlim:lim+2<=1000000000) (hm:S.may add drop=true) (hc:(S.files.length:Int)+add.length - drop.length<=24)
 (hx:ev D.cells.length (S.turn+1) add S.dz (S.files.filter fun f=> !drop.contains (f.num:Int))=some fs) (hs:et fs=fs):NM S D sf lim add fs (S.switch add drop D):=by
 have h:=vQ hg (by omega) add drop
 cases h with
 | no h1 e=>rw[hm] at h1;cases h1
 | many h1 h2 e=>omega
 | full h1 h2 h3 e=>rw[hx] at h3;cases h3
 | off fs' h1 h2 h3 h4 hn e=>
  rw[hx] at h3;injection h3 with h3
  subst h3;rw[hs] at hn e;refine .off (by omega) _ e (yt h4) (fun m hm=>hm.dK) rfl fun keep torn bytes=>?_
  have hcm:vT (D.wr (1 - S.slot) (bZ (S.turn+1) (fs.map Fl.hd))) ((D.dK (1 - S.slot) (bZ (S.turn+1) (fs.map Fl.hd))).bS keep torn bytes):=by
   rw[qC];exact jR (zl hg.fils.wf (by have:=hg.fils.two;omega) (fH (by rw[List.length_map];exact hn.ok.count)))
  exact Aa hg hn hlim hcm
 | ok fs' h1 h2 h3 h4 hn e g=>
  rw[hx] at h3;injection h3 with h3
  subst h3;rw[hs] at hn e g;rw[e] at g;have hl:(bZ (S.turn+1) (fs.map Fl.hd)).length=512:=fH (by rw[List.length_map];exact hn.ok.count);have hwf:Af (D.wr (1 - S.slot) (bZ (S.turn+1) (fs.map Fl.hd))):=zl hg.fils.wf (by have:=hg.fils.two;omega) hl;exact .ok _ e g (fun n hn=>hn.wr.flush rfl) (eL hwf rfl).len (by rw[eU rfl];exact Nat.sub_le _ _)
end
section
variable {n:Nat} {D D':Dk} {slot turn:Nat} {lo:Bool} {a b:Nat × Nat} {LF:List (List UInt8)} {y:Xf} {sf:Nat->Nat} {lim i:Nat} {E E':List aw} {bs:List (List cJ)} {safe:Nat} {S:aN} {cs:List cJ} {x:Bool}
theorem gZ.up {l l':Nat} (h:gZ n D l i E bs safe) (h1:l<=l') (h2:l'<=1000000000):gZ n D l' i E bs safe:=fun keep torn bytes=>by
 obtain⟨S',e,m,m1,m2,sf',x,slot,turn,lo,a,b,LF,y,e1,e2,e3⟩:=h keep torn bytes;exact⟨S',e,m,m1,m2,sf',x,slot,turn,lo,a,b,LF,y,e1,e2,e3.MO h1 h2⟩
inductive Nw (n:Nat) (D:Dk) (slot turn:Nat) (lo:Bool) (a b:Nat × Nat) (LF:List (List UInt8)) (lim i:Nat) (E:List aw) (bs:List (List cJ)) (r:aN × Dk × Int):Prop where
 | ok (D':Dk) (sf':Nat->Nat) (e:r=(cq (1 - slot) (turn+1) n i lo a b (ak (ab E)) LF (some (turn+1,1,[])),D',0)) (h:iC n D' (1 - slot) (turn+1) lo a b LF (some (turn+1,1,[])) sf' (lim+1) i E bs bs.length) (c: ∀ m,dA D m->dA D' (m+1)) (r:D'.armed<=D.armed)
 | off (ha:D.armed≠0) (S':aN) (D':Dk) (e:r=(S',D',21)) (o:D'.off=true) (h:gZ n D' (lim+2) i E bs bs.length) (c: ∀ m,dA D m->dA D' (m+1)) (l:D'.cells.length=n)
theorem iC.NN (h:iC n D slot turn lo a b LF none sf lim i E bs bs.length) (hlim:lim+2<=1000000000) (hi:i<=2147483000):
 Nw n D slot turn lo a b LF lim i E bs ((cq slot turn n i lo a b (ak (ab E)) LF none).switch [⟨(i:Int)+2,0,aG n⟩] [] D):=by
 obtain⟨f1,f2,f3⟩:=h.fit;have hsw:=qU (add:=[⟨(i:Int)+2,0,aG n⟩]) (drop:=[]) h.good hlim (Dc ⟨h.num.1,hi⟩ f3) (by have:=vC slot turn n i lo a b (ak (ab E)) LF none;show ((cq slot turn n i lo a b (ak (ab E)) LF none).files.length:Int)+1 - 0<=24;omega) (by rw[h.len];exact De f1 f3 f2) vF
 cases hsw with
 | ok D' e g c l ar=>
  have e':(cq slot turn n i lo a b (ak (ab E)) LF none).switch [⟨(i:Int)+2,0,aG n⟩] [] D=(cq (1 - slot) (turn+1) n i lo a b (ak (ab E)) LF (some (turn+1,1,[])),D',0):=e;have g':Good D' (cq (1 - slot) (turn+1) n i lo a b (ak (ab E)) LF (some (turn+1,1,[]))) (dw (cq (1 - slot) (turn+1) n i lo a b (ak (ab E)) LF (some (turn+1,1,[]))).files) (lim+1):=g;have h6:=sL.all h.tel;rw[List.length_map] at h6;refine .ok D' _ e' ⟨g',l.trans h.len,h.big,h.num,h.tel,?_,?_,Nat.le_refl _⟩ c ar
  .rw[fF (IF:=ak (ab E))];exact h6
  .rw[dV];exact Nat.le_refl _
 | off ha D' e o c l f=>
  refine .off ha _ D' e o (fun keep torn bytes=>?_) c (l.trans h.len);have hcl:(D'.bS keep torn bytes).cells.length=n:=by rw[ek,l];exact h.len
  rcases f keep torn bytes with ⟨fs',o1,o2,o3⟩ | ⟨fs',o1,o2,o3⟩
  .obtain⟨m,m1,m2,sf',m3⟩:=fg hcl h.big h.num h.cra h.safeI o2 (nz o3 (by omega) (by omega:lim+2<=1000000000));exact⟨_,o1,m,m1,m2,sf',_,m3⟩
  .have o2':fU (fun num=>if ((num:Nat):Int) ∈ [(i:Int)+2] then 0 else sf num) (cq (1 - slot) (turn+1) n i lo a b (ak (ab E)) LF (some (turn+1,1,[]))).files fs':=o2;obtain⟨m,m1,m2,sf',m3⟩:=fg (sl:=1 - slot) (tu:=turn+1) (y:=some (turn+1,1,[])) hcl h.big h.num (by
    show sL LF _ _ (if ((i+1:Nat):Int) ∈ [(i:Int)+2] then 0 else sf (i+1));rw[if_neg (by intro h;have:=List.mem_singleton.1 h;omega)];exact h.cra) (by
    show _<=(if ((i:Nat):Int) ∈ [(i:Int)+2] then 0 else sf i);rw[if_neg (by intro h;have:=List.mem_singleton.1 h;omega)];exact h.safeI) o2' o3
   exact⟨_,o1,m,m1,m2,sf',_,m3⟩
inductive Mr (n:Nat) (D:Dk) (slot turn:Nat) (lo:Bool) (a b:Nat × Nat) (LF:List (List UInt8)) (u v:Nat) (lim i:Nat) (E:List aw) (bs:List (List cJ)) (ps:List (List UInt8)) (r:aN × Dk × Int):Prop where
 | ok (D':Dk) (sf':Nat->Nat) (e:r=(cq slot turn n i lo a b (ak (ab E)) LF (some (u,v,ps)),D',0)) (h:iC n D' slot turn lo a b LF (some (u,v,ps)) sf' lim i E bs bs.length) (c: ∀ m,dA D m->dA D' (m+ps.length)) (r:D'.armed<=D.armed)
 | off (ha:D.armed≠0) (S':aN) (D':Dk) (e:r=(S',D',21)) (o:D'.off=true) (h:gZ n D' (lim+1) i E bs bs.length) (c: ∀ m,dA D m->dA D' (m+ps.length)) (l:D'.cells.length=n)
theorem iC.fill {u v:Nat} (h:iC n D slot turn lo a b LF (some (u,v,[])) sf lim i E bs bs.length) (hlim:lim+1<=1000000000) {ps:List (List UInt8)} (hp: ∀ p ∈ ps,p.length<=480) (hl:ps.length<=aG n):
 Mr n D slot turn lo a b LF u v lim i E bs ps (aN.cO ((i:Int)+2) ps (cq slot turn n i lo a b (ak (ab E)) LF (some (u,v,[]))) D):=by
 have ha:=qw h.good xu hp (show 0+ps.length<=aG n by omega)
 cases ha with
 | ok D' e g c l r=>
  simp only at e g;rw[mE (u,v,[]) ps] at e g;exact .ok D' sf e ⟨g,l.trans h.len,h.big,h.num,h.tel,h.cra,h.safeI,h.safe⟩ c r
 | off ha S' D' Dv j e o g cr c l=>
  simp only at g;rw[mE (u,v,[]) (ps.take j)] at g;refine .off ha S' D' e o (fun keep torn bytes=>?_) c (l.trans h.len);obtain⟨gs,f1,f2,f3⟩:=kS g hlim (jR (keep:=keep) (torn:=torn) (bytes:=bytes) g.fils.wf);obtain⟨m,m1,m2,sf',m3⟩:=fg (by rw[<-cr,ek,l];exact h.len) h.big h.num h.cra h.safeI f2 f3;exact⟨_,by rw[cr];exact f1,m,m1,m2,sf',_,by rw[cr];exact m3⟩
inductive Ni (n:Nat) (D:Dk) (slot turn:Nat) (lo:Bool) (a b:Nat × Nat) (LF:List (List UInt8)) (u v:Nat) (lim i:Nat) (E E':List aw) (bs:List (List cJ)) (r:aN × Dk × Int):Prop where
 | ok (D':Dk) (sf':Nat->Nat) (e:r=(cq (1 - slot) (turn+1) n (i+2) (!lo) (u,v) (turn+1,1) (ak (ab E')) [] none,D',0)) (h:iC n D' (1 - slot) (turn+1) (!lo) (u,v) (turn+1,1) [] none sf' (lim+1) (i+2) E' [] 0) (c: ∀ m,dA D m->dA D' (m+1)) (r:D'.armed<=D.armed)
 | off (ha:D.armed≠0) (S':aN) (D':Dk) (e:r=(S',D',21)) (o:D'.off=true) (h: ∀ keep torn bytes, ∃ S',cP (D'.bS keep torn bytes)=(some S',0)/\ ∃ sf',((∃ x,Fa n (D'.bS keep torn bytes) S' sf' (lim+2) i E bs bs.length x)\/Fa n (D'.bS keep torn bytes) S' sf' (lim+2) (i+2) E' [] 0 false)) (c: ∀ m,dA D m->dA D' (m+1)) (l:D'.cells.length=n)
theorem iC.NH {u v:Nat} (h:iC n D slot turn lo a b LF (some (u,v,ak (ab E'))) sf lim i E bs bs.length) (hsf:(ak (ab E')).length<=sf (i+2)) (hlim:lim+2<=1000000000) (hi:i<=2147483000):
 Ni n D slot turn lo a b LF u v lim i E E' bs ((cq slot turn n i lo a b (ak (ab E)) LF (some (u,v,ak (ab E')))).switch [⟨(i:Int)+3,0,bC n⟩] [(i:Int),(i:Int)+1] D):=by
 obtain⟨f1,f2,f3⟩:=h.fit;have hsw:=qU (add:=[⟨(i:Int)+3,0,bC n⟩]) (drop:=[(i:Int),(i:Int)+1]) h.good hlim (FF ⟨h.num.1,hi⟩ f2) (by have:=vC slot turn n i lo a b (ak (ab E)) LF (some (u,v,ak (ab E')));simp only[List.length_cons,List.length_nil];omega) (by rw[h.len];exact Hx f1 f3 f2 _) vF
 cases hsw with
 | ok D' e g c l ar=>
  have e':(cq slot turn n i lo a b (ak (ab E)) LF (some (u,v,ak (ab E')))).switch [⟨(i:Int)+3,0,bC n⟩] [(i:Int),(i:Int)+1] D=(cq (1 - slot) (turn+1) n (i+2) (!lo) (u,v) (turn+1,1) (ak (ab E')) [] none,D',0):=e;have g':Good D' (cq (1 - slot) (turn+1) n (i+2) (!lo) (u,v) (turn+1,1) (ak (ab E')) [] none) (dw (cq (1 - slot) (turn+1) n (i+2) (!lo) (u,v) (turn+1,1) (ak (ab E')) [] none).files) (lim+1):=g;have h6:=sL.all uX.nil;refine .ok D' _ e' ⟨g',l.trans h.len,h.big,by have:=h.num;omega,uX.nil,?_,?_,Nat.le_refl _⟩ c ar
  .rw[fF (IF:=ak (ab E'))];exact h6
  .rw[dV];exact Nat.le_refl _
 | off ha D' e o c l f=>
  refine .off ha _ D' e o (fun keep torn bytes=>?_) c (l.trans h.len);have hcl:(D'.bS keep torn bytes).cells.length=n:=by rw[ek,l];exact h.len
  rcases f keep torn bytes with ⟨fs',o1,o2,o3⟩ | ⟨fs',o1,o2,o3⟩
  .obtain⟨m,m1,m2,sf',m3⟩:=fg hcl h.big h.num h.cra h.safeI o2 (nz o3 (by omega) (by omega:lim+2<=1000000000));have hm:m=bs.length:=by omega
   subst hm;rw[List.take_length] at m3;exact⟨_,o1,sf',.inl ⟨_,m3⟩⟩
  .have o2':fU (fun num=>if ((num:Nat):Int) ∈ [(i:Int)+3] then 0 else sf num) (cq (1 - slot) (turn+1) n (i+2) (!lo) (u,v) (turn+1,1) (ak (ab E')) [] none).files fs':=o2;obtain⟨m,m1,m2,sf',m3⟩:=fg (sl:=1 - slot) (tu:=turn+1) (bs:=[]) (safe:=0) hcl h.big (by have:=h.num;omega) (by
    show sL [] _ _ (if ((i+2+1:Nat):Int) ∈ [(i:Int)+3] then 0 else sf (i+2+1));rw[if_pos (by rw[List.mem_singleton];omega)];exact sL.all uX.nil) (by
    show _<=(if ((i+2:Nat):Int) ∈ [(i:Int)+3] then 0 else sf (i+2));rw[if_neg (by intro h;have:=List.mem_singleton.1 h;omega)];exact hsf) o2' o3
   have hm:m=0:=by simpa using m2
   subst hm;exact⟨_,o1,sf',.inr m3⟩
theorem Mi {q:Nat} (h:q<=3):(q:Int)+(([]:List Fi).length:Nat) - ((1:Nat):Int)<=24:=by
 rw[List.length_nil];omega
inductive L7 (n:Nat) (D:Dk) (slot turn:Nat) (lo:Bool) (a b:Nat × Nat) (LF:List (List UInt8)) (lim i:Nat) (E:List aw) (bs:List (List cJ)) (r:aN × Dk × Int):Prop where
 | ok (D':Dk) (sf':Nat->Nat) (e:r=(cq (1 - slot) (turn+1) n i lo a b (ak (ab E)) LF none,D',0)) (h:iC n D' (1 - slot) (turn+1) lo a b LF none sf' (lim+1) i E bs bs.length) (c: ∀ m,dA D m->dA D' (m+1)) (r:D'.armed<=D.armed)
 | off (ha:D.armed≠0) (S':aN) (D':Dk) (e:r=(S',D',21)) (o:D'.off=true) (h:gZ n D' (lim+2) i E bs bs.length) (c: ∀ m,dA D m->dA D' (m+1)) (l:D'.cells.length=n)
theorem iC.back {z:Nat × Nat × List (List UInt8)} (h:iC n D slot turn lo a b LF (some z) sf lim i E bs bs.length) (hlim:lim+2<=1000000000):
 L7 n D slot turn lo a b LF lim i E bs ((cq slot turn n i lo a b (ak (ab E)) LF (some z)).switch [] [(i:Int)+2] D):=by
 obtain⟨f1,f2,f3⟩:=h.fit;have hm:=G9 (slot:=slot) (turn:=turn) (n:=n) (i:=i) (lo:=lo) (a:=a) (b:=b) (IF:=ak (ab E)) (LF:=LF) z;have hx:=F3 (slot:=slot) (turn:=turn) (n:=n) (i:=i) (lo:=lo) (a:=a) (b:=b) (IF:=ak (ab E)) (LF:=LF) z;have hso:=vF (slot:=slot) (turn:=turn) (n:=n) (i:=i) (lo:=lo) (a:=a) (b:=b) (IF:=ak (ab E)) (LF:=LF) (x:=none);have hfw:((cq slot turn n i lo a b (ak (ab E)) LF (some z)).files.length:Int)+(([]:List Fi).length:Nat) - (([(i:Int)+2]:List Int).length:Nat)<=24:=by
  rw[show ([(i:Int)+2]:List Int).length=1 from rfl];exact Mi (vC slot turn n i lo a b (ak (ab E)) LF (some z))
 have hsw:=qU (add:=[]) (drop:=[(i:Int)+2]) (fs:=(cq slot turn n i lo a b (ak (ab E)) LF none).files) h.good hlim hm hfw (by rw[h.len];exact hx) hso
 cases hsw with
 | ok D' e g c l ar=>
  have e':(cq slot turn n i lo a b (ak (ab E)) LF (some z)).switch [] [(i:Int)+2] D=(cq (1 - slot) (turn+1) n i lo a b (ak (ab E)) LF none,D',0):=e;have g':Good D' (cq (1 - slot) (turn+1) n i lo a b (ak (ab E)) LF none) (dw (cq (1 - slot) (turn+1) n i lo a b (ak (ab E)) LF none).files) (lim+1):=g;have h6:=sL.all h.tel;rw[List.length_map] at h6;refine .ok D' _ e' ⟨g',l.trans h.len,h.big,h.num,h.tel,?_,?_,Nat.le_refl _⟩ c ar
  .rw[fF (IF:=ak (ab E))];exact h6
  .rw[dV];exact Nat.le_refl _
 | off ha D' e o c l f=>
  refine .off ha _ D' e o (fun keep torn bytes=>?_) c (l.trans h.len);have hcl:(D'.bS keep torn bytes).cells.length=n:=by rw[ek,l];exact h.len
  rcases f keep torn bytes with ⟨fs',o1,o2,o3⟩ | ⟨fs',o1,o2,o3⟩
  .obtain⟨m,m1,m2,sf',m3⟩:=fg hcl h.big h.num h.cra h.safeI o2 (nz o3 (by omega) (by omega:lim+2<=1000000000));exact⟨_,o1,m,m1,m2,sf',_,m3⟩
  .have o2':fU (fun num=>if ((num:Nat):Int) ∈ ([]:List Int) then 0 else sf num) (cq (1 - slot) (turn+1) n i lo a b (ak (ab E)) LF none).files fs':=o2;obtain⟨m,m1,m2,sf',m3⟩:=fg (sl:=1 - slot) (tu:=turn+1) hcl h.big h.num (by
    show sL LF _ _ (if ((i+1:Nat):Int) ∈ ([]:List Int) then 0 else sf (i+1));rw[if_neg (by simp)];exact h.cra) (by
    show _<=(if ((i:Nat):Int) ∈ ([]:List Int) then 0 else sf i);rw[if_neg (by simp)];exact h.safeI) o2' o3
   exact⟨_,o1,m,m1,m2,sf',_,m3⟩
def vq (sl tu n:Nat):aN:=⟨sl,tu,[⟨2,2,aG n,tu,1,[]⟩]⟩
theorem K8 (hg:Good D ⟨slot,turn,[]⟩ sf lim) (hl:D.cells.length=n) (hn:64<=n/\n<=65536) (hlim:lim+2<=1000000000) (ha:D.armed=0):
 ∃ D',(aN.mk slot turn []).switch [⟨2,0,aG n⟩] [] D=(vq (1 - slot) (turn+1) n,D',0)/\Good D' (vq (1 - slot) (turn+1) n) (dw (vq (1 - slot) (turn+1) n).files) (lim+1)/\(∀ m,dA D m->dA D' (m+1))/\D'.cells.length=n/\D'.armed=0:=by
 have h1:=mo hn.1;have h2:=jP hn.2;have hfind: ∀ x,(aN.mk slot turn []).find x=none:=fun x=>rfl
 have h3:(1:Int)<=aG n:=by omega
 have hmay:(aN.mk slot turn []).may [⟨2,0,aG n⟩] []=true:=by
  simp[aN.may,aN.dS,aN.eX,hfind,h3]
 have hsw:=qU (add:=[⟨2,0,aG n⟩]) (drop:=[]) (fs:=(vq (1 - slot) (turn+1) n).files) hg hlim hmay (by show (0:Int)+1 - 0<=24;decide) (by
  show ev _ (turn+1) [⟨2,0,aG n⟩] [] []=_;have hpl:bh D.cells.length ((aG n:Nat):Int) 2 (dv [])=(2,true):=by
   show (2,decide (((aG n:Nat):Int)<=(D.cells.length:Int) - 2))=_;rw[decide_eq_true (by omega)]
  rw[lI hpl];unfold ev;simp only[Int.toNat_natCast];rfl) rfl
 cases hsw with
 | ok D' e g c l ar=>exact⟨D',e,g,c,l.trans hl,by omega⟩
 | off ha2 D' e o c l f=>exact absurd ha ha2
theorem K9 {a1 a2:Nat} (hg:Good D ⟨slot,turn,[⟨2,2,aG n,a1,a2,[]⟩]⟩ sf lim) (hl:D.cells.length=n) (hn:64<=n/\n<=65536) (hlim:lim+2<=1000000000) (ha:D.armed=0):
 ∃ D' sf',(aN.mk slot turn [⟨2,2,aG n,a1,a2,[]⟩]).switch [⟨3,0,bC n⟩] [] D=(cq (1 - slot) (turn+1) n 2 true (a1,a2) (turn+1,1) (ak (ab [])) [] none,D',0)/\iC n D' (1 - slot) (turn+1) true (a1,a2) (turn+1,1) [] none sf' (lim+1) 2 [] [] 0/\(∀ m,dA D m->dA D' (m+1))/\D'.armed=0:=by
 have h1:=mo hn.1;have h2:=jP hn.2;have h3:(1:Int)<=bC n:=by omega
 have hfind:(aN.mk slot turn [⟨2,2,aG n,a1,a2,[]⟩]).find 3=none:=rfl;have hmay:(aN.mk slot turn [⟨2,2,aG n,a1,a2,[]⟩]).may [⟨3,0,bC n⟩] []=true:=by
  simp[aN.may,aN.dS,aN.eX,hfind,h3]
 have hsw:=qU (add:=[⟨3,0,bC n⟩]) (drop:=[]) (fs:=(cq (1 - slot) (turn+1) n 2 true (a1,a2) (turn+1,1) (ak (ab [])) [] none).files) hg hlim hmay (by show (1:Int)+1 - 0<=24;decide) (by
  show ev _ (turn+1) [⟨3,0,bC n⟩] [(2,aG n)] [⟨2,2,aG n,a1,a2,[]⟩]=_;have hpl:bh D.cells.length ((bC n:Nat):Int) 2 (dv [(2,aG n)])=(2+aG n,true):=by
   show bh _ _ 2 [(2,aG n)]=_;unfold bh;rw[if_neg (by simp only[];omega)];unfold bh;rw[decide_eq_true (by simp only[];omega)]
  rw[lI hpl];unfold ev;simp only[Int.toNat_natCast];rfl) (G5 (by show 2<=3;omega))
 cases hsw with
 | ok D' e g c l ar=>
  have g':Good D' (cq (1 - slot) (turn+1) n 2 true (a1,a2) (turn+1,1) (ak (ab [])) [] none) (dw (cq (1 - slot) (turn+1) n 2 true (a1,a2) (turn+1,1) (ak (ab [])) [] none).files) (lim+1):=g;refine⟨D',_,e,⟨g',l.trans hl,hn.1,by omega,uX.nil,?_,?_,Nat.le_refl _⟩,c,by omega⟩
  .rw[fF (IF:=ak (ab []))];exact sL.all uX.nil
  .rw[dV];exact Nat.le_refl _
 | off ha2 D' e o c l f=>exact absurd ha ha2
theorem IE (hg:Good D ⟨slot,turn,[]⟩ sf lim) (hlim:lim+1<=1000000000):cP D=(some ⟨slot,turn,[]⟩,0):=by
 obtain⟨gs,e1,e2,e3⟩:=pG hg hlim
 match gs,e2 with
 | [],_=>exact e1
end
def lz (x:Int) (ps:List (List UInt8)) (S:aN) (D:Dk):aN × Dk × Int:=
 if (aN.cO x ps S D).2.2=0 then ((aN.cO x ps S D).1,(aN.cO x ps S D).2.1.flush.1,(aN.cO x ps S D).2.1.flush.2) else aN.cO x ps S D
theorem D0 {r:List UInt8} (h0:r.length≠0) (h:r.length<=480):ak r=[r]:=by
 rw[uO h0,List.take_of_length_le h,List.drop_eq_nil_of_le h];rfl
section
variable {w0 w:World} {F:SP} {s d n m:Nat} {D:Dk} {S:aN} {sf:Nat->Nat} {lim:Nat} {b:List UInt8}
theorem JK (x:Int) (A:Option Addr) (c:Nat) (hg:Good D S sf lim) (hc:dA D m) (hm:m+b.length<=999999000) (ha:D.armed<=9223372036854775807) (h:Sat w0 (ag s d S*(ae d D*F)) w) (hp: ∀ W,Sat w0 F W->Rd W A b) (hbc:b.length<=c) (hcm:c<=9223372036854775807):
 Calls Tryz.prog 124 #[.pointer (some ⟨s,0,none⟩),.int .i64 x,.slice A b.length c] w fun e w'=>e = .returned (.int .i64 (lz x (ak b) S D).2.2)/\Sat w0 (ag s d (lz x (ak b) S D).1*(ae d (lz x (ak b) S D).2.1*F)) w':=by
 have HS:=ah h;have HG:=ah hg;have HC:=ah hc;have HA:=ah ha;have HP:Hid (∀ W,Sat w0 F W->Rd W A b):=hp;obtain⟨L0,hL0⟩: ∃ L0,L0=b.length:=⟨_,rfl⟩;have HL0:=ah hL0;rw[<-hL0] at hm hbc;rw[<-hL0];clear h hg hc ha hp hL0;go_enter Tryz.func124, Tryz.ntmps124;go_wp2_with fail;go_loopw [2] (fun sv wr=> ∃ (L c' k:Nat) (A':Option Addr),L<=c'/\c'<=9223372036854775807/\sv = .slice A' L c'/\k+L<=L0/\Hid (∃ (r:List UInt8) (S':aN) (D':Dk),L=r.length/\Good D' S' sf lim/\dA D' (m+k)/\D'.armed<=9223372036854775807/\aN.cO x (ak b) S D=aN.cO x (ak r) S' D'/\(∀ W,Sat w0 F W->Rd W A' r)/\Sat w0 (ag s d S'*(ae d D'*F)) wr)) (fun sv _=>lenOf sv)
 case atStart=>exact⟨L0,c,0,A,hbc,hcm,rfl,by omega,b,S,D,HL0.o,HG.o,HC.o,HA.o,rfl,HP.o,HS.o⟩
 case round=>
  obtain⟨L,c',k,A',hlc,hcm',rfl,hk,HD⟩:=hrel;obtain⟨r,S',D',hL,hg',hc',ha',heq,hrd,hs'⟩:=HD.o;have HLr:=ah hL;by_cases h0:L=0
  .have HR0:Hid (aN.cO x (ak b) S D=(S',D',0)):=by
    unfold Hid;rw[heq,List.eq_nil_of_length_eq_zero (by omega:r.length=0)];rfl
   have HSy:=ah (vk hs' (by have:=hc'.pend;omega));subst h0;clear hL hg' hc' ha' heq hrd hs' HD;go_wp2_with (go_at_call 56;(with_reducible refine HSy.o.mono ?_);rintro e w4 ⟨rfl,hs⟩;have HS4:=ah hs;clear hs);go_ret;unfold lz;rw[HR0.o,if_pos rfl];exact⟨rfl,HS4.o⟩
  .by_cases h4:480<L
   .have hl0:(0:Int)<L:=by omega
    have hmin:min (L:Int) 480=480:=by omega
    have hmn2:(480:Int)<=L:=by omega
    have hcr:=uO (b:=r) (by omega);have hpl:(r.take 480).length=480:=by rw[List.length_take];omega
    obtain⟨S2,D2,r2,he⟩: ∃ S2 D2 r2,S'.append x (r.take 480) D'=(S2,D2,r2):=⟨_,_,_,rfl⟩;have hAp:=FT x A' c' 480 hg' hc' (by omega) ha' hs' (fun W hW=>(hrd W hW).take 480) hpl he;have hst:aN.cO x (ak b) S D=if r2=0 then aN.cO x (ak (r.drop 480)) S2 D2 else (S2,D2,r2):=by
     rw[heq,hcr,fB,he]
    have hnx:=fun h0=>rj hg' x (r.take 480) hc' ha' (by rw[he];exact h0)
    rw[he] at hnx;have hrd2: ∀ W,Sat w0 F W->Rd W (A'.map (·.add 480)) (r.drop 480):=fun W hW=>by
     have h9:=(hrd W hW).drop (k:=480) (cap:=c') (by omega) (by omega);rw[if_neg (by omega)] at h9;exact h9
    have hdl:L - 480=(r.drop 480).length:=by rw[List.length_drop];omega
    have HAp:=ah hAp;have HSt:=ah hst;have HNx:=ah hnx;have HRd2:=ah hrd2;have HDl:=ah hdl;clear hL hg' hc' ha' heq hrd hs' HD hAp hst hnx hrd2 hdl hcr hpl he HLr;by_cases hr2:r2=0
    .subst hr2;have HN0:=ah (HNx.o rfl);have HS0:Hid (aN.cO x (ak b) S D=aN.cO x (ak (r.drop 480)) S2 D2):=by unfold Hid;rw[HSt.o,if_pos rfl]
     clear HNx HSt;go_wp2_with (go_at_call 120;(with_reducible refine HAp.o.mono ?_);rintro e w4 ⟨rfl,hs⟩;have HS4:=ah hs;clear hs);go_roundw
     .exact⟨L - 480,c' - 480,k+480,_,by omega,by omega,rfl,by omega,r.drop 480,S2,D2,HDl.o,HN0.o.1,HN0.o.2.1.mono (by omega),HN0.o.2.2,HS0.o,HRd2.o,HS4.o⟩
     .simp[lenOf];omega
    .have hr3:(r2 !=0)=true:=by rw[bne_iff_ne];exact hr2
     have HE:Hid (aN.cO x (ak b) S D=(S2,D2,r2)):=by unfold Hid;rw[HSt.o,if_neg hr2]
     go_wp2_with (go_at_call 120;(with_reducible refine HAp.o.mono ?_);rintro e w4 ⟨rfl,hs⟩;have HS4:=ah hs;clear hs);go_ret;unfold lz;rw[HE.o,if_neg hr2];exact⟨rfl,HS4.o⟩
   .have hl0:(0:Int)<L:=by omega
    have hmin:min (L:Int) 480=L:=by omega
    have hcr:=D0 (r:=r) (by omega) (by omega);obtain⟨S2,D2,r2,he⟩: ∃ S2 D2 r2,S'.append x r D'=(S2,D2,r2):=⟨_,_,_,rfl⟩;have hAp:=FT x A' c' L hg' hc' (by omega) ha' hs' hrd hL.symm he;have hst:aN.cO x (ak b) S D=if r2=0 then (S2,D2,0) else (S2,D2,r2):=by
     rw[heq,hcr,fB,he];rfl
    have hnx:=fun h0=>rj hg' x r hc' ha' (by rw[he];exact h0)
    rw[he] at hnx;have HAp:=ah hAp;have HSt:=ah hst;have HNx:=ah hnx;clear hL hg' hc' ha' heq hrd hs' HD hAp hst hnx hcr he HLr;by_cases hr2:r2=0
    .subst hr2;have HN0:=ah (HNx.o rfl);have HS0:Hid (aN.cO x (ak b) S D=(S2,D2,0)):=by unfold Hid;rw[HSt.o,if_pos rfl]
     clear HNx HSt;go_wp2_with (go_at_call 120;(with_reducible refine HAp.o.mono ?_);rintro e w4 ⟨rfl,hs⟩;have HS4:=ah hs;clear hs);go_roundw
     .exact⟨0,c' - L,k+L,(if c'=L then A' else A'.map (·.add L)),by omega,by omega,by simp,by omega,[],S2,D2,rfl,HN0.o.1,HN0.o.2.1.mono (by omega),HN0.o.2.2,HS0.o,fun W _=>Rd.nil _ _,HS4.o⟩
     .simp[lenOf];omega
    .have hr3:(r2 !=0)=true:=by rw[bne_iff_ne];exact hr2
     have HE:Hid (aN.cO x (ak b) S D=(S2,D2,r2)):=by unfold Hid;rw[HSt.o,if_neg hr2]
     go_wp2_with (go_at_call 120;(with_reducible refine HAp.o.mono ?_);rintro e w4 ⟨rfl,hs⟩;have HS4:=ah hs;clear hs);go_ret;unfold lz;rw[HE.o,if_neg hr2];exact⟨rfl,HS4.o⟩
end
section
variable {n:Nat} {D D':Dk} {slot turn:Nat} {lo:Bool} {a b:Nat × Nat} {LF:List (List UInt8)} {y:Xf} {sf:Nat->Nat} {lim i:Nat} {E E':List aw} {bs:List (List cJ)} {safe:Nat} {S:aN} {cs:List cJ} {x:Bool}
def FU (n:Nat) (D:Dk) (lim i:Nat) (E E':List aw) (bs:List (List cJ)):Prop:= ∀ keep torn bytes,
 ∃ S',cP (D.bS keep torn bytes)=(some S',0)/\ ∃ sf',((∃ x,Fa n (D.bS keep torn bytes) S' sf' lim i E bs bs.length x)\/Fa n (D.bS keep torn bytes) S' sf' lim (i+2) E' [] 0 false)
theorem gZ.ei (h:gZ n D lim i E bs bs.length) (E':List aw):FU n D lim i E E' bs:=fun keep torn bytes=>by
 obtain⟨S',e,m,m1,m2,sf',x,h1⟩:=h keep torn bytes;have hm:m=bs.length:=by omega
 subst hm;rw[List.take_length] at h1;exact⟨S',e,sf',.inl ⟨x,h1⟩⟩
inductive Nh (n:Nat) (D:Dk) (slot turn:Nat) (lo:Bool) (a b:Nat × Nat) (LF:List (List UInt8)) (u v:Nat) (lim i:Nat) (E:List aw) (bs:List (List cJ)) (ps:List (List UInt8)) (r:aN × Dk × Int):Prop where
 | ok (D':Dk) (sf':Nat->Nat) (e:r=(cq slot turn n i lo a b (ak (ab E)) LF (some (u,v,ps)),D',0)) (h:iC n D' slot turn lo a b LF (some (u,v,ps)) sf' lim i E bs bs.length) (hs:ps.length<=sf' (i+2)) (c: ∀ m,dA D m->dA D' (m+ps.length)) (r:D'.armed<=D.armed)
 | off (ha:D.armed≠0) (S':aN) (D':Dk) (e:r=(S',D',21)) (o:D'.off=true) (h:gZ n D' (lim+1) i E bs bs.length) (c: ∀ m,dA D m->dA D' (m+ps.length)) (l:D'.cells.length=n)
theorem iC.NI {u v:Nat} (h:iC n D slot turn lo a b LF (some (u,v,[])) sf lim i E bs bs.length) (hlim:lim+1<=1000000000) {ps:List (List UInt8)} (hp: ∀ p ∈ ps,p.length<=480) (hl:ps.length<=aG n):
 Nh n D slot turn lo a b LF u v lim i E bs ps (lz ((i:Int)+2) ps (cq slot turn n i lo a b (ak (ab E)) LF (some (u,v,[]))) D):=by
 have hf:=h.fill hlim hp hl;unfold lz
 cases hf with
 | ok D' sf' e h' c r=>
  rw[e];simp only[if_true];obtain⟨g1,g2⟩:=h'.sync;rw[g1];refine .ok _ _ rfl g2 ?_ (fun m hm=>(c m hm).flush h'.good.fils.off) (by rw[eU h'.good.fils.off];exact r);rw[yc];exact Nat.le_refl _
 | off ha S' D' e o h' c l=>
  rw[e,if_neg (show ¬ ((21:Int)=0) by decide)];exact .off ha S' D' rfl o h' c l
end
theorem ep.own {ns:List Nd} {n:Nat} (h:ep ns n):ep ns (cG ns).length:=⟨h.ok,by unfold cG gy;simp,h.each⟩
theorem ep.lens {ns:List Nd} {n:Nat} (h:ep ns n): ∀ x ∈ cG ns,x.key.length<=200/\x.value.length<=20000:=fun x hx=>by
 unfold cG gy at hx;rw[List.map_map] at hx;obtain⟨m,hm,rfl⟩:=List.mem_map.1 hx;exact⟨(h.each m hm).1,(h.each m hm).2.1⟩
section
variable {w0 w:World} {F:SP}
theorem DS (b d s:Nat) (v:Sd) (h:Sat w0 (dD b d s v*F) w) (hL:v.L.length<=90000) (hz: ∀ x ∈ v.L,0<=x.seq/\x.seq<=1000000000) (hf:v.bU<=1000000):
 Calls Tryz.prog 113 #[.pointer (some ⟨b,0,none⟩)] w fun x w'=>x = .returned (.tuple #[])/\ ∃ qs,tO v.snaps v.bU qs/\Sat w0 (dD b d s { v with L:=eE qs v.L }*F) w':=by
 obtain⟨lg,L,sq,sn,bU,nx⟩:=v;obtain⟨tb,hr,mb,ns,⟨ht,he⟩,hs0⟩:=h.db;dsimp only at hL hz hf ht he;have hs:=hs0.of (dW ..);dsimp only at hs;have hpw:L.Pairwise dJ:=he ▸ lM ht.ok;have hln:=ht.lens;rw[he] at hln;have c3:w.cell? ⟨b,3,none⟩=some (.pointer (some ⟨tb,0,none⟩)):=hs.cell 3;have hlv:=tH 0 tb hr ns w (hs.av.view ht.ok) ht.ok (ht.small (by omega));rw[zq ht,he] at hlv;have HLv:=ah hlv;have HS:=ah hs;have HT:=ah ht;have HE:=ah he;have HPw:=ah hpw;have HLn:=ah hln;have HZ:=ah hz;clear h hs0 hs hpw hln hlv ht he hz;go_enter Tryz.func113, Tryz.ntmps113;go_upto_region 1 with (go_at_call 122;(with_reducible refine HLv.o.mono ?_);rintro e w1 ⟨es,A,c,rfl,hes,hs1⟩;have HS1:=ah (HS.o.join hs1 (bf (bM _ _ _ _ _) (cS _)));have HES:=ah hes;clear hes hs1)
 obtain⟨A',c',hsl,hc1,hc2⟩:=(HS1.o.of (aj _ _ _)).aT;injection hsl with e1 e2 e3
 subst e1;subst e3;have HEl:Hid (es.length=L.length):=by unfold Hid;rw[<-HES.o,List.length_map]
 have hmx:c<=9223372036854775807:=by unfold maxLen at hc2;omega
 have HP:=ah (Ba (w0:=w0) (w:=w1) (F:=Row 120 4 (.slice A es.length c) es.length (es.flatMap cu)*(aW es*(bK tb hr ns*F))) b mb bU sn _ (HS1.o.of (by rw[aj];show _=Pt b 113 (ez d s lg tb sq mb nx false)*_;ac_rfl)) rfl hf);have HC:=ah hc1;have HC2:=ah hc2;have HThA:Hid (∀ PA pc (qs:List Int) W,tO sn bU qs->Sat w0 (Row 3 1 (.slice PA qs.length pc) qs.length (qs.map (Value.int .i64))*(Pt b 113 (ez d s lg tb sq mb nx false)*(bY Tryz.prog 3 mb bU (iy sn)*(Row 120 4 (.slice A es.length c) es.length (es.flatMap cu)*(aW es*(bK tb hr ns*F)))))) W->Calls Tryz.prog 121 #[.slice A es.length c,.bool true,.slice PA qs.length pc] W (GX W (cZ true qs L))):=fun PA pc qs W hq hW=>by
  have h9:=xp true A c es PA pc qs W (hW.bW.cj) (gu hW.gw) HC.o HC2.o (by have:=HEl.o;omega) (fun e he=>(by have:=HLn.o e.ao (by rw[<-HES.o];exact List.mem_map_of_mem he);have h1:e.key.2.2.length<=200:=this.1;have h2:e.value.2.2.length<=20000:=this.2;omega)) hW.cj (by have:=hq.2;omega) (by rw[HES.o];exact HPw.o);rw[HES.o] at h9;exact h9
 clear c3 HLv hc1 hc2 HS;go_upto_region 2 with (first
  | (go_at_call 148;(with_reducible refine HP.o.mono ?_);rintro e w2 ⟨PA,pc,qs,rfl,hqs,hs2⟩;have HQ:=ah hqs;have HS2:=ah hs2;clear hqs hs2)
  | (go_at_call 121;(with_reducible refine(HThA.o _ _ _ _ HQ.o HS2.o).mono ?_);rintro e w3 ⟨ts,TA,tc,rfl,hts,hs3⟩;have HS3:=ah (HS2.o.join hs3 (bf (bM _ _ _ _ _) (bf (cS _) dt)));have HTs:=ah hts;clear hts hs3))
 clear HP HThA HS1;have HTl:Hid (ts.length=(cZ true qs L).length):=by unfold Hid;rw[<-HTs.o,List.length_map]
 have htl2:ts.length<=L.length:=by rw[HTl.o];exact(gG true qs L).length_le
 have HS4:Hid (Sat w0 (Row 120 4 (.slice TA ts.length tc) ts.length (ts.flatMap cu)*(aW ts*(Pt b 113 (ez d s lg tb sq mb nx false)*(bK tb hr ns*(bY Tryz.prog 3 mb bU (iy sn)*F))))) w3):=by
  have h1:=HS3.o.of (show _=(Row 120 4 (.slice TA ts.length tc) ts.length (ts.flatMap cu)*aW ts)*_ by rw[bX (aW ts) aV,aX]);have h2:=h1.of (show _=(Row 3 1 (.slice PA qs.length pc) qs.length (qs.map (Value.int .i64))*(Row 120 4 (.slice A es.length c) es.length (es.flatMap cu)*aW es))*(Row 120 4 (.slice TA ts.length tc) ts.length (ts.flatMap cu)*(aW ts*(Pt b 113 (ez d s lg tb sq mb nx false)*(bK tb hr ns*(bY Tryz.prog 3 mb bU (iy sn)*F))))) by ac_rfl);exact h2.right
 clear HS3 HS2;by_cases hlt:2*ts.length+16<es.length
 .have HTi:Hid (eE qs L=ts.map En.ao):=by
   unfold Hid eE;rw[if_pos (by have:=HTl.o;have:=HEl.o;omega),HTs.o]
  have h1:(2*(ts.length:Int)+16)<es.length:=by omega
  clear hlt;go_upto_region 4 with (go_at_call 58;(with_reducible refine(xk w0 _ _ HS4.o).mono ?_);rintro e w4 ⟨tb2,hr2,rfl,hs4⟩;have HS5:=ah hs4;have f3:=hs4.bW.frozen 3;have c3:=hs4.bW.cell 3;clear hs4)
  have hs6:=HS5.o.bW.set 3 (.pointer (some ⟨tb2,0,none⟩));obtain⟨W6,hW6⟩: ∃ W6,W6=w4.setCell ⟨b,3,none⟩ (.pointer (some ⟨tb2,0,none⟩)):=⟨_,rfl⟩;rw[<-hW6] at hs6;rw[<-hW6];have HS6:Hid (Sat w0 (bK tb2 hr2 []*(Pt b 113 (ez d s lg tb2 sq mb nx false)*(Row 120 4 (.slice TA ts.length tc) ts.length (ts.flatMap cu)*(aW ts*(bY Tryz.prog 3 mb bU (iy sn)*F))))) W6):=by
   have h2:=hs6.of (show _=bK tb hr ns*(bK tb2 hr2 []*(Pt b 113 (ez d s lg tb2 sq mb nx false)*(Row 120 4 (.slice TA ts.length tc) ts.length (ts.flatMap cu)*(aW ts*(bY Tryz.prog 3 mb bU (iy sn)*F))))) by
    show Pt b 113 (ez d s lg tb2 sq mb nx false)*(bK tb2 hr2 []*_)=_
    ac_rfl)
   exact h2.right
  clear hW6 hs6 c3 f3 HS5 HS4;have HTsr:Hid ((ts.map En.ao).Pairwise dJ):=by unfold Hid;rw[HTs.o];exact pd HPw.o
  have HTin:Hid (∀ x ∈ ts.map En.ao,x ∈ L):=fun x hx=>by rw[HTs.o] at hx;exact(gG true qs L).mem hx
  go_wp2_with fail;go_loopw [32] (fun iv wr=> ∃ (i:Nat) (ms:List Nd),i<=ts.length/\iv = .int .i64 (i:Int)/\Hid (ep ms i/\cG ms=(ts.map En.ao).take i/\Sat w0 (bK tb2 hr2 ms*(Pt b 113 (ez d s lg tb2 sq mb nx false)*(Row 120 4 (.slice TA ts.length tc) ts.length (ts.flatMap cu)*(aW ts*(bY Tryz.prog 3 mb bU (iy sn)*F))))) wr)) (fun iv _=>ts.length - (intOf iv).toNat)
  case atStart=>exact⟨0,[],by omega,rfl,yI 0,rfl,HS6.o⟩
  case round=>
   obtain⟨i,ms,hi,rfl,HD⟩:=hrel;by_cases hlt:i<ts.length
   .obtain⟨lb,lo,hA,hq⟩:=eh HD.o.2.2.bD.cj (by omega);subst hA;obtain⟨y0,y1,y2,y3⟩:=hq i hlt;have HRi:=ah (gu HD.o.2.2.bW _ (List.getElem_mem hlt));have HLi:=ah (HLn.o _ (HTin.o _ (List.mem_map_of_mem (List.getElem_mem hlt))));have HZi:=ah (HZ.o _ (HTin.o _ (List.mem_map_of_mem (List.getElem_mem hlt))));have HTk:Hid ((ts.map En.ao).take (i+1)=(ts.map En.ao).take i++[ts[i].ao]):=by
     unfold Hid;rw[List.take_add_one,List.getElem?_eq_getElem (by rw[List.length_map];exact hlt),List.getElem_map];rfl
    have HNew:Hid (∀ x ∈ cG ms,dJ x ts[i].ao):=fun x hx=>by
     rw[HD.o.2.1] at hx;have h2:=HTsr.o;rw[<-List.take_append_drop (i+1) (ts.map En.ao),HTk.o] at h2;have h3:=(List.pairwise_append.1 h2).1;exact(List.pairwise_append.1 h3).2.2 x hx _ (List.mem_singleton_self _)
    have hii:(i:Int)<ts.length:=by omega
    clear hq;generalize ts[i]=x at*
    obtain⟨⟨kA,kc,kl⟩,⟨vA,vc,vl⟩,eq,dd⟩:=x;replace y0:_=some (Value.slice kA kl.length kc):=y0;replace y1:_=some (Value.slice vA vl.length vc):=y1;replace y2:_=some (Value.int .i64 eq):=y2;replace y3:_=some (Value.bool dd):=y3;replace HZi:Hid (0<=eq/\eq<=1000000000):=HZi;go_upto_region 7 with fail;have hs7:=HD.o.2.2.af 120 #[.slice kA kl.length kc,.slice vA vl.length vc,.int .i64 eq,.bool dd];obtain⟨W7,hW7⟩: ∃ W7,W7=wr.alloc (.cells #[.slice kA kl.length kc,.slice vA vl.length vc,.int .i64 eq,.bool dd] 120):=⟨_,rfl⟩;rw[<-hW7] at hs7;rw[<-hW7];obtain⟨bx,hbx⟩: ∃ bx,bx=wr.heap.size:=⟨_,rfl⟩;rw[<-hbx] at hs7;rw[<-hbx];have HR7:Hid (Rd W7 kA kl/\Rd W7 vA vl):=by rw[hW7];exact⟨aH.alloc HRi.o.1 _,aH.alloc HRi.o.2 _⟩
    clear hW7 hbx y0 y1 y2 y3;have c3:=hs7.bD.cell 3;have x0:=hs7.cell 0;have x1:=hs7.cell 1;have x2:=hs7.cell 2;have x3:=hs7.cell 3;have HSr:=ah hs7;clear hs7;have HPu:Hid (∀ W H,aq No W7 W->Calls Tryz.prog 62 #[.pointer (some ⟨tb2,0,none⟩),.agg #[.slice kA kl.length kc,.slice vA vl.length vc,.int .i64 eq,.bool dd],.int .i64 H] W fun x w'=> ∃ ns',x = .returned (.int .i64 0)/\ep ns' (i+1)/\cG ns'=(ts.map En.ao).take (i+1)/\Sat w0 (bK tb2 hr2 ns'*(Pt bx 120 #[.slice kA kl.length kc,.slice vA vl.length vc,.int .i64 eq,.bool dd]*(Pt b 113 (ez d s lg tb2 sq mb nx false)*(Row 120 4 (.slice (some ⟨lb,lo,none⟩) ts.length tc) ts.length (ts.flatMap cu)*(aW ts*(bY Tryz.prog 3 mb bU (iy sn)*F)))))) w'):=fun W H hW=>by
     refine(rC tb2 hr2 ms i H ⟨(kA,kc,kl),(vA,vc,vl),eq,dd⟩ w0 W _ (HSr.o.new hW).av HD.o.1 (by omega) ⟨HR7.o.1.new hW,HR7.o.2.new hW⟩ HLi.o.1 HLi.o.2 (by show eq<=fm;unfold fm;have:=HZi.o;omega) (fun x hx hs=>oD hs (HNew.o x hx))).mono ?_;rintro x w' ⟨ns',rfl,k1,k2,k3⟩;exact⟨ns',rfl,k1,by rw[k2,te HNew.o,HTk.o,HD.o.2.1],k3⟩
    have HH:=ah (fun W=>mP eq HZi.o W);have HDrew:Hid (aq No W7 W7.drew):=(aq.refl No W7).drew;refine wp_region_held_drew (S:=fun w'=>w'.cell? ⟨b,3,none⟩=some (.pointer (some ⟨tb2,0,none⟩))/\w'.cell? ⟨bx,0,none⟩=some (.slice kA kl.length kc)/\w'.cell? ⟨bx,1,none⟩=some (.slice vA vl.length vc)/\w'.cell? ⟨bx,2,none⟩=some (.int .i64 eq)/\w'.cell? ⟨bx,3,none⟩=some (.bool dd)) (by kernel_rfl) ⟨(by exact c3),x0,x1,x2,x3⟩ ?_;intro hS0;refine an 0 1 2 3 ?_;refine cm 4 5 ?_;refine cH 6 ?_;refine bR 7 fun K hK=>?_
    go_simp;go_at_call 63;(with_reducible refine(HH.o _).mono ?_);rintro e wx ⟨⟨hh,rfl,hh1,hh2⟩,rfl⟩
    refine hK.out _ _ ⟨(by exact c3),x0,x1,x2,x3⟩ (fun hS0=>?_);clear hK K;refine bR 8 fun K hK=>?_
    go_simp;go_at_call 62;(with_reducible refine(HPu.o _ hh HDrew.o).mono ?_);rintro e w8 ⟨ns2,rfl,n1,n2,hs8⟩;have HN1:=ah n1;have HN2:=ah n2;have HS8:=ah hs8;clear n1 n2 hs8
    refine hK.out _ _ ⟨HS8.o.bD.cell 3,HS8.o.av.cell 0,HS8.o.av.cell 1,HS8.o.av.cell 2,HS8.o.av.cell 3⟩ (fun hS0=>?_);clear hK K;refine wpAnyH_done (by kernel_rfl) ?_ _;go_wp2_with fail;go_roundw
    .exact⟨i+1,ns2,by omega,by push_cast;rfl,HN1.o,HN2.o,HS8.o.av.right⟩
    .simp[intOf];omega
   .have hie:i=ts.length:=by omega
    subst hie;go_wp2_with fail;go_end0
    refine⟨rfl,qs,HQ.o,?_⟩;have hend:=HD.o.2.1;rw[List.take_of_length_le (by rw[List.length_map];omega)] at hend;refine Sat.wJ (tb:=tb2) (hr:=hr2) (mb:=mb) (ns:=ms) (v:=⟨lg,eE qs L,sq,sn,bU,nx⟩) ?_ ?_ ?_
    .show ep ms (eE qs L).length;rw[HTi.o,List.length_map];exact HD.o.1
    .show cG ms=eE qs L;rw[HTi.o,hend]
    .rw[dW];have h2:=HD.o.2.2;exact(h2.of (show _=(Row 120 4 (.slice TA ts.length tc) ts.length (ts.flatMap cu)*aW ts)*(Pt b 113 (ez d s lg tb2 sq mb nx false)*(bK tb2 hr2 ms*(bY Tryz.prog 3 mb bU (iy sn)*F))) by ac_rfl)).right
 .have HTi:Hid (eE qs L=L):=by
   unfold Hid eE;rw[if_neg (by have:=HTl.o;have:=HEl.o;omega)]
  have h1:¬ (2*(ts.length:Int)+16)<es.length:=by omega
  clear hlt;go_wp2_with fail;go_end0
  refine⟨rfl,qs,HQ.o,?_⟩;refine Sat.wJ (tb:=tb) (hr:=hr) (mb:=mb) (ns:=ns) (v:=⟨lg,eE qs L,sq,sn,bU,nx⟩) ?_ ?_ ?_
  .show ep ns (eE qs L).length;rw[HTi.o];exact HT.o
  .show cG ns=eE qs L;rw[HTi.o,HE.o]
  .rw[dW];exact HS4.o.right.right
theorem uh (b d s:Nat) (v:Sd) (A:Option Addr) (c:Nat) (ps:List Pu) (h:Sat w0 (dD b d s v*F) w) (hb: ∀ W,Sat w0 F W->aH W A (ps.flatMap dQ)/\eJ W ps) (hok: ∀ p ∈ ps,je p.bE) (hn:ps.length<=10000)
 (hL:v.L.length<=80000) (hz: ∀ x ∈ v.L,0<=x.seq/\x.seq<=v.seq) (hq:v.seq+1<=1000000000) (hf:v.bU<=1000000):
 Calls Tryz.prog 65 #[.pointer (some ⟨b,0,none⟩),.slice A ps.length c] w fun x w'=>x = .returned (.tuple #[])/\ ∃ qs,tO v.snaps v.bU qs/\Sat w0 (dD b d s { v with L:=eE qs (gE v.seq (ps.map Pu.bE) v.L),seq:=v.seq+1 }*F) w':=by
 obtain⟨lg,L,sq,sn,bU,nx⟩:=v;obtain⟨tb,hr,mb,ns,⟨ht,he⟩,hs0⟩:=h.db;dsimp only at hL hz hq hf ht he;have hs:=hs0.of (dW ..);dsimp only at hs;have c4:w.cell? ⟨b,4,none⟩=some (.int .i64 (sq:Int)):=hs.cell 4;have f4:=hs.frozen 4;have hs1:=hs.set 4 (.int .i64 ((sq:Int)+1));have e1:(ez d s lg tb sq mb nx false).setIfInBounds 4 (.int .i64 ((sq:Int)+1))=ez d s lg tb ((sq:Int)+1) mb nx false:=rfl;rw[e1] at hs1;obtain⟨W1,hW1⟩: ∃ W1,W1=w.setCell ⟨b,4,none⟩ (.int .i64 ((sq:Int)+1)):=⟨_,rfl⟩;rw[<-hW1] at hs1;have HW:=ah hW1;have HS1:=ah hs1;have HT:=ah ht;have HE:=ah he;have HZ:=ah hz;have HOk:=ah hok;have HLt:Hid (∀ x ∈ L,x.seq<((sq+1:Nat):Int)):=fun x hx=>by have:=(hz x hx).2;omega
 have HB:Hid (∀ W,Sat w0 F W->eJ W ps):=fun W hW=>(hb W hW).2
 have HLa:=ah (GV A c ps W1 (hb W1 hs1.right.right.right).1 (hb W1 hs1.right.right.right).2 (fun p hp=>(hok p hp).key.2) (by omega));clear h hs0 hs hs1 hb ht he hz hok hW1 e1;go_enter Tryz.func65, Tryz.ntmps65;go_upto_region 1 with fail;rw[<-HW.o];clear c4 f4 HW;go_wp2_with (go_at_call 112;(with_reducible refine HLa.o.mono ?_);rintro e w2 ⟨QA,qc,qs,hin,hqs,rfl,hs2⟩;have HS2:=ah (HS1.o.join hs2 (bf (bM _ _ _ _ _) dt));have HIn:=ah hin;have HQs:=ah hqs;clear hin hqs hs2);clear HLa HS1;have HS3:Hid (Sat w0 (bK tb hr ns*(Pt b 113 (ez d s lg tb ((sq:Int)+1) mb nx false)*(Row 43 3 (.slice QA qs.length qc) qs.length (qs.flatMap dQ)*(bY Tryz.prog 3 mb bU (iy sn)*F)))) w2):=HS2.o.of (by rw[bX _ aV,aX];ac_rfl);have HQl:Hid (qs.length<=ps.length):=by
  have h1:=congrArg List.length HQs.o;have h2:=(ja (ps.map Pu.bE)).length_le;rw[List.length_map] at h1 h2;unfold Hid;omega
 have hql:qs.length<=10000:=by have:=HQl.o;omega
 clear HS2;go_loopw [16] (fun iv wr=> ∃ (i:Nat) (ms:List Nd),i<=qs.length/\iv = .int .i64 (i:Int)/\Hid (ep ms (L.length+i)/\cG ms=mU ((sq+1:Nat):Int) ((qs.map Pu.bE).take i) L/\Sat w0 (bK tb hr ms*(Pt b 113 (ez d s lg tb ((sq:Int)+1) mb nx false)*(Row 43 3 (.slice QA qs.length qc) qs.length (qs.flatMap dQ)*(bY Tryz.prog 3 mb bU (iy sn)*F)))) wr)) (fun iv _=>qs.length - (intOf iv).toNat)
 case atStart=>exact⟨0,ns,by omega,rfl,HT.o,HE.o,HS3.o⟩
 case round=>
  obtain⟨i,ms,hi,rfl,HD⟩:=hrel;by_cases hlt:i<qs.length
  .obtain⟨lb,lo,hA,hq⟩:=gx HD.o.2.2.bD.cj (by omega);subst hA;obtain⟨y0,y1,y2⟩:=hq i hlt;have HRi:=ah (HB.o wr HD.o.2.2.right.right.right.right _ (HIn.o _ (List.getElem_mem hlt)));have HOi:=ah (HOk.o _ (HIn.o _ (List.getElem_mem hlt)));have HTk:Hid ((qs.map Pu.bE).take (i+1)=(qs.map Pu.bE).take i++[qs[i].bE]):=by
    unfold Hid;rw[List.take_add_one,List.getElem?_eq_getElem (by rw[List.length_map];exact hlt),List.getElem_map];rfl
   have HNew:Hid (∀ x ∈ cG ms,¬ jm x (wh ((sq+1:Nat):Int) qs[i].bE)):=fun x hx hsm=>by
    rw[HD.o.2.1] at hx;rcases nM.1 hx with h1 | ⟨p,hp,h1⟩
    .have h2:=HLt.o x h1;have h3:x.seq=((sq+1:Nat):Int):=hsm.2;omega
    .have h2:=fD (ps.map Pu.bE);rw[<-HQs.o, <-List.take_append_drop (i+1) (qs.map Pu.bE),HTk.o] at h2;have h3:=(List.pairwise_append.1 (List.pairwise_append.1 h2).1).2.2 p hp _ (List.mem_singleton_self _);have h4:x.key=qs[i].bE.key:=hsm.1;rw[h1] at h4;exact h3 h4
   have hii:(i:Int)<qs.length:=by omega
   clear hq;generalize qs[i]=x at*
   obtain⟨⟨kA,kc,kl⟩,⟨vA,vc,vl⟩,dd⟩:=x;replace y0:_=some (Value.slice kA kl.length kc):=y0;replace y1:_=some (Value.slice vA vl.length vc):=y1;replace y2:_=some (Value.bool dd):=y2;go_upto_region 4 with fail;have hs7:=HD.o.2.2.af 43 #[.slice kA kl.length kc,.slice vA vl.length vc,.bool dd];obtain⟨W7,hW7⟩: ∃ W7,W7=wr.alloc (.cells #[.slice kA kl.length kc,.slice vA vl.length vc,.bool dd] 43):=⟨_,rfl⟩;rw[<-hW7] at hs7;rw[<-hW7];obtain⟨bx,hbx⟩: ∃ bx,bx=wr.heap.size:=⟨_,rfl⟩;rw[<-hbx] at hs7;rw[<-hbx];have HR7:Hid (Rd W7 kA kl/\Rd W7 vA vl):=by rw[hW7];exact⟨aH.alloc HRi.o.1 _,aH.alloc HRi.o.2 _⟩
   clear hW7 hbx y0 y1 y2;have c3:=hs7.bD.cell 3;have c4:=hs7.bD.cell 4;have x0:=hs7.cell 0;have x1:=hs7.cell 1;have x2:=hs7.cell 2;have HSr:=ah hs7;clear hs7;have HPu:Hid (∀ W H,aq No W7 W->Calls Tryz.prog 62 #[.pointer (some ⟨tb,0,none⟩),.agg #[.slice kA kl.length kc,.slice vA vl.length vc,.int .i64 ((sq:Int)+1),.bool dd],.int .i64 H] W fun x w'=> ∃ ns',x = .returned (.int .i64 0)/\ep ns' (L.length+(i+1))/\cG ns'=mU ((sq+1:Nat):Int) ((qs.map Pu.bE).take (i+1)) L/\Sat w0 (bK tb hr ns'*(Pt bx 43 #[.slice kA kl.length kc,.slice vA vl.length vc,.bool dd]*(Pt b 113 (ez d s lg tb ((sq:Int)+1) mb nx false)*(Row 43 3 (.slice (some ⟨lb,lo,none⟩) qs.length qc) qs.length (qs.flatMap dQ)*(bY Tryz.prog 3 mb bU (iy sn)*F))))) w'):=fun W H hW=>by
    have hk:=HOi.o.key.2;have hv:=HOi.o.val;replace hk:kl.length<=128:=hk;replace hv:vl.length<=16384:=hv;have hnew:=HNew.o;rw[show ((sq+1:Nat):Int)=(sq:Int)+1 by omega] at hnew;refine(rC tb hr ms (L.length+i) H ⟨(kA,kc,kl),(vA,vc,vl),(sq:Int)+1,dd⟩ w0 W _ (HSr.o.new hW).av HD.o.1 (by omega) ⟨HR7.o.1.new hW,HR7.o.2.new hW⟩ (by show kl.length<=200;omega) (by show vl.length<=20000;omega) (by show (sq:Int)+1<=fm;unfold fm;omega) hnew).mono ?_;rintro x w' ⟨ns',rfl,k1,k2,k3⟩;refine⟨ns',rfl,k1,?_,k3⟩;rw[k2,HTk.o,HD.o.2.1];unfold mU;rw[List.foldl_append];show _=kK _ _;rw[show ((sq+1:Nat):Int)=(sq:Int)+1 by omega];rfl
   have HH:=ah (fun W=>mP ((sq:Int)+1) (by omega) W);have HDrew:Hid (aq No W7 W7.drew):=(aq.refl No W7).drew;refine wp_region_held_drew (S:=fun w'=>w'.cell? ⟨b,3,none⟩=some (.pointer (some ⟨tb,0,none⟩))/\w'.cell? ⟨b,4,none⟩=some (.int .i64 ((sq:Int)+1))/\w'.cell? ⟨bx,0,none⟩=some (.slice kA kl.length kc)/\w'.cell? ⟨bx,1,none⟩=some (.slice vA vl.length vc)/\w'.cell? ⟨bx,2,none⟩=some (.bool dd)) (by kernel_rfl) ⟨(by exact c3),(by exact c4),x0,x1,x2⟩ ?_;intro hS0;refine an 0 1 2 3 ?_;refine an 4 5 6 7 ?_;refine an 8 9 10 11 ?_;refine an 12 13 14 15 ?_;refine cm 16 17 ?_;refine cH 18 ?_;refine bR 19 fun K hK=>?_
   go_simp;go_at_call 63;(with_reducible refine(HH.o _).mono ?_);rintro e wx ⟨⟨hh,rfl,hh1,hh2⟩,rfl⟩
   refine hK.out _ _ ⟨(by exact c3),(by exact c4),x0,x1,x2⟩ (fun hS0=>?_);clear hK K;refine bR 20 fun K hK=>?_
   go_simp;go_at_call 62;(with_reducible refine(HPu.o _ hh HDrew.o).mono ?_);rintro e w8 ⟨ns2,rfl,n1,n2,hs8⟩;have HN1:=ah n1;have HN2:=ah n2;have HS8:=ah hs8;clear n1 n2 hs8
   refine hK.out _ _ ⟨HS8.o.bD.cell 3,HS8.o.bD.cell 4,HS8.o.av.cell 0,HS8.o.av.cell 1,HS8.o.av.cell 2⟩ (fun hS0=>?_);clear hK K;refine wpAnyH_done (by kernel_rfl) ?_ _;go_wp2_with fail;go_roundw
   .exact⟨i+1,ns2,by omega,by push_cast;rfl,HN1.o,HN2.o,HS8.o.av.right⟩
   .simp[intOf];omega
  .have hie:i=qs.length:=by omega
   subst hie;have hend:=HD.o.2.1;rw[List.take_of_length_le (by rw[List.length_map];omega),HQs.o] at hend;have HDn:Hid (cG ms=gE sq (ps.map Pu.bE) L):=hend;have HTo:Hid (ep ms (gE sq (ps.map Pu.bE) L).length):=by have:=HD.o.1.own;rw[HDn.o] at this;exact this
   have HS9:Hid (Sat w0 (dD b d s ⟨lg,gE sq (ps.map Pu.bE) L,sq+1,sn,bU,nx⟩*F) wr):=by
    refine Sat.wJ (tb:=tb) (hr:=hr) (mb:=mb) (ns:=ms) HTo.o HDn.o ?_;rw[dW];dsimp only;rw[show ((sq+1:Nat):Int)=(sq:Int)+1 by omega];exact(HD.o.2.2.of (show _=Row 43 3 (.slice QA qs.length qc) qs.length (qs.flatMap dQ)*(Pt b 113 (ez d s lg tb ((sq:Int)+1) mb nx false)*(bK tb hr ms*(bY Tryz.prog 3 mb bU (iy sn)*F))) by ac_rfl)).right
   have HTh:=ah (DS b d s ⟨lg,gE sq (ps.map Pu.bE) L,sq+1,sn,bU,nx⟩ HS9.o (by
    show (gE sq (ps.map Pu.bE) L).length<=90000;unfold gE;rw[qu];have h2:=(ja (ps.map Pu.bE)).length_le;rw[List.length_map] at h2;omega) (fun x hx=>by
    rcases nM.1 hx with h1 | ⟨p,hp,rfl⟩
    .have:=HZ.o x h1;omega
    .show 0<=((sq+1:Nat):Int)/\((sq+1:Nat):Int)<=1000000000;omega) hf)
   go_wp2_with (go_at_call 113;(with_reducible refine HTh.o.mono ?_);rintro e w4 ⟨rfl,qq,hq1,hs4⟩;have HQ4:=ah hq1;have HS4:=ah hs4;clear hq1 hs4);go_end0
   exact⟨rfl,qq,HQ4.o,HS4.o⟩
end
def Hv (p:Kv):Nat:=p.1.length+p.2.length+40
def fK (M:List Kv):List UInt8->Option Value:=fun k=>(ba k M).map fun v=> .int .i64 ((k.length+v.length+40:Nat):Int)
theorem uG (k:List UInt8) (p:Kv): ∀ M:List Kv,ba k (M++[p])=match ba k M with | some v=>some v | none=>if p.1=k then some p.2 else none
 | []=>rfl
 | q::M=>by
  show (if q.1=k then some q.2 else ba k (M++[p]))=match (if q.1=k then some q.2 else ba k M) with | some v=>some v | none=>if p.1=k then some p.2 else none
  by_cases h:q.1=k
  .rw[if_pos h,if_pos h]
  .rw[if_neg h,if_neg h];exact uG k p M
theorem JI {M:List Kv} {p:Kv} (h: ∀ q ∈ M,q.1≠p.1):fK (M++[p])=kX (fK M) p.1 (some (.int .i64 ((p.1.length+p.2.length+40:Nat):Int))):=by
 funext k
 unfold fK kX;rw[uG];by_cases hk:k=p.1
 .rw[if_pos hk,hk,eQ h];simp
 .rw[if_neg hk]
  cases hg:ba k M with
  | some v=>simp[hg]
  | none=>simp only[hg];rw[if_neg (fun e=>hk e.symm)]
theorem Lj {M:List Kv} (h:M.Pairwise nH) (c:cJ):fK (fG c M)=if c.dead=true then kX (kX (fK M) c.key (some (.int .i64 ((c.key.length+c.value.length+40:Nat):Int)))) c.key none else kX (fK M) c.key (some (.int .i64 ((c.key.length+c.value.length+40:Nat):Int))):=by
 funext k
 unfold fK;rw[xC c h];unfold AH;by_cases hk:c.key=k
 .subst hk
  cases hd:c.dead with
  | true=>simp[kX]
  | false=>simp[kX]
 .have hk2:¬ k=c.key:=fun e=>hk e.symm
  rw[if_neg hk]
  cases hd:c.dead with
  | true=>simp[kX,hk2]
  | false=>simp[kX,hk2]
def nt (left:Lit->Bool) (M:List Kv):Nat:=((M.filter fun p=> !left (.string p.1)).map Hv).sum
theorem nW (left:Lit->Bool) (p:Kv) (M:List Kv):nt left (p::M)=(if left (.string p.1)=true then 0 else Hv p)+nt left M:=by
 unfold nt;rw[List.filter_cons]
 cases left (.string p.1) with
 | true=>simp
 | false=>simp
theorem sC {left:Lit->Bool} {k v:List UInt8}: ∀ {M:List Kv},M.Pairwise nH->ba k M=some v->left (.string k)=true->nt (fun z=>left z && !z.sameKey (.string k)) M=nt left M+(k.length+v.length+40)
 | [],_,h,_=>by cases h
 | p::M,hp,h,hl=>by
  obtain⟨h1,h2⟩:=List.pairwise_cons.1 hp;rw[nW,nW];unfold ba at h;by_cases hk:p.1=k
  .rw[if_pos hk] at h;injection h with h
   have h3:nt (fun z=>left z && !z.sameKey (.string k)) M=nt left M:=by
    unfold nt;congr 2
    apply List.filter_congr;intro q hq;have hne:q.1≠k:=by rw[<-hk];exact(dG (h1 q hq)).symm
    have h4:(Lit.string q.1).sameKey (.string k)=false:=Maps.sameKey_ne (fun e=>hne (by injection e));simp[h4]
   rw[h3,hk];have h5:(left (.string k) && !(Lit.string k).sameKey (.string k))=false:=by rw[WideAt.sameKey_self (by simp[WideAt.IsKeyLit])];simp
   rw[h5,hl];simp only[Bool.false_eq_true,if_false,if_true];have h6:Hv p=k.length+v.length+40:=by unfold Hv;rw[hk,h]
   omega
  .rw[if_neg hk] at h;rw[sC h2 h hl];have h4:(Lit.string p.1).sameKey (.string k)=false:=Maps.sameKey_ne (fun e=>hk (by injection e));simp only[h4,Bool.not_false,Bool.and_true];omega
theorem Hf {left:Lit->Bool} (h: ∀ z,left z=false) (M:List Kv):nt left M=eW M:=by
 unfold nt eW;rw[List.filter_eq_self.2 (fun p _=>by rw[h];rfl)];rfl
theorem zV {D:DataW Value} {M:List Kv} (hM:M.Pairwise nH) (hs:my D (fK M)):nt (Maps.has D) M=0:=by
 unfold nt;rw[List.filter_eq_nil_iff.2]
 .rfl
 .intro p hp h;have h1:Maps.has D (.string p.1)=false:=by simpa using h
  have h2:=DO hs h1;have h3:ba p.1 M=some p.2:=by
   have: ∀ {M:List Kv},M.Pairwise nH->p ∈ M->ba p.1 M=some p.2:=by
    intro M
    induction M with
    | nil=>intro _ h;cases h
    | cons q M ih=>
     intro hM hp;obtain⟨h4,h5⟩:=List.pairwise_cons.1 hM;unfold ba;rcases List.mem_cons.1 hp with rfl | hp
     .rw[if_pos rfl]
     .rw[if_neg (dG (h4 p hp)),ih h5 hp]
   exact this hM hp
  unfold fK at h2;rw[h3] at h2
  cases h2
theorem CY (left:Lit->Bool): ∀ M:List Kv,nt left M<=eW M
 | []=>Nat.le_refl _
 | p::M=>by
  have ih:=CY left M;rw[nW];have h1:eW (p::M)=Hv p+eW M:=by unfold eW;rw[List.map_cons,List.sum_cons];rfl
  rw[h1];split<;>omega
def fh (n:Nat) (M:List Kv) (cs:List cJ):Bool:=decide (aG n*480<eW M+400) || decide (bC n<bz (aJ cs).length)
theorem CC: ∀ {M:List Kv},(∀ p ∈ M,p.1.length<=200/\p.2.length<=20000)->eW M<=M.length*20240
 | [],_=>Nat.le_refl _
 | p::M,h=>by
  have ih:=CC fun q hq=>h q (List.mem_cons_of_mem _ hq)
  have h1:=h p List.mem_cons_self;unfold eW at ih ⊢;rw[List.map_cons,List.sum_cons,List.length_cons];omega
theorem yW {c:cJ} {M:List Kv} {p:Kv} (h:p ∈ fG c M):p ∈ M\/p=(c.key,c.value):=by
 unfold fG at h;rcases List.mem_append.1 h with h | h
 .exact .inl ((List.takeWhile_sublist _).mem h)
 .rcases List.mem_append.1 h with h | h
  .split at h
   .cases h
   .exact .inr (List.mem_singleton.1 h)
  .have hd:=List.dropWhile_sublist (fun q:Kv=>decide (Lib.compareBytes q.1 c.key<0)) (l:=M);split at h
   .cases h
   .rename_i q T he;rw[he] at hd;split at h
    .exact .inl (hd.mem (List.mem_cons_of_mem _ h))
    .exact .inl (hd.mem h)
theorem yx (c:cJ) (M:List Kv):(fG c M).length<=M.length+1:=by
 have e:=congrArg List.length (List.takeWhile_append_dropWhile (p:=fun q:Kv=>decide (Lib.compareBytes q.1 c.key<0)) (l:=M));unfold fG;rw[List.length_append] at e;rw[List.length_append,List.length_append];have h1:(if c.dead=true then ([]:List Kv) else [(c.key,c.value)]).length<=1:=by split<;>simp
 cases hd:M.dropWhile (fun q:Kv=>decide (Lib.compareBytes q.1 c.key<0)) with
 | nil=>
  rw[hd] at e;simp only[List.length_nil] at e ⊢;omega
 | cons q T=>
  rw[hd,List.length_cons] at e;simp only;have h2:(if q.1=c.key then T else q::T).length<=T.length+1:=by split<;>simp
  omega
theorem qV: ∀ {cs:List cJ} {M:List Kv},(∀ c ∈ cs,je c)->(∀ p ∈ M,p.1.length<=200/\p.2.length<=20000)->(∀ p ∈ bq cs M,p.1.length<=200/\p.2.length<=20000)/\(bq cs M).length<=M.length+cs.length
 | [],M,_,h=>⟨h,Nat.le_refl _⟩
 | c::cs,M,hc,h=>by
  have hcc:=hc c List.mem_cons_self;obtain⟨h1,h2⟩:=qV (cs:=cs) (M:=fG c M) (fun x hx=>hc x (List.mem_cons_of_mem _ hx)) fun p hp=>by
   rcases yW hp with hp | rfl
   .exact h p hp
   .have:=hcc.key;have:=hcc.val;exact⟨by show c.key.length<=200;omega,by show c.value.length<=20000;omega⟩
  refine⟨h1,?_⟩;have:=yx c M;rw[List.length_cons];show (bq cs (fG c M)).length<=_;omega
def Gg (v:Sd) (olds:Int->Option (List Kv)) (j:Int):Prop:=
 (v.snaps j=none/\olds j=none)\/ ∃ q Mo,v.snaps j=some q/\olds j=some Mo/\q<=v.seq/\Mo.Pairwise nH/\ ∀ k,ew k (q:Int) v.L=ba k Mo
structure uE (n t k:Nat) (D:Dk) (S:aN) (v:Sd) (M:List Kv) (olds:Int->Option (List Kv)):Prop where
 BJ: ∃ sf lim i E bs,Fa n D S sf lim i E bs bs.length false/\v.log=i+1/\qf n t v.seq E bs/\iY E bs=M/\lim<=4*k+8/\i<=2*k+2
 mem:cR v.L v.seq M t
 snaps: ∀ j,Gg v olds j
 cnt:dA D (20000*k+100)
 bU:v.seq<=k/\v.bU<=k/\v.next<=k+1
def pT (n t k:Nat) (D:Dk) (S:aN) (Ms:List (List Kv)):Prop:=
 ∃ sf lim i E bs x,Fa n D S sf lim i E bs bs.length x/\qf n t k E bs/\iY E bs ∈ Ms/\lim<=4*k+8/\i<=2*k+2/\dA D (20000*k+100)
def mS (n t k:Nat) (D:Dk) (Ms:List (List Kv)):Prop:=dA D (20000*k+100)/\ ∀ keep torn bytes,
 ∃ S',cP (D.bS keep torn bytes)=(some S',0)/\pT n t k (D.bS keep torn bytes) S' Ms
section
variable {n t k:Nat} {D D':Dk} {S:aN} {v:Sd} {M:List Kv} {olds:Int->Option (List Kv)} {sf:Nat->Nat} {lim i:Nat} {E E':List aw} {bs:List (List cJ)} {cs:List cJ} {x:Bool}
theorem qf.snoc (h:qf n t k E bs) (hc:pQ cs) (hs:eW (bq cs (iY E bs))+400<=aG n*480):qf n (t+cs.length) (k+1) E (bs++[cs]):=by
 refine⟨h.wI,fun c hcc=>?_,?_,by rw[lR];exact hs,fun x hx=>?_,?_⟩
 .rcases List.mem_append.1 hcc with h1 | h1
  .exact h.bats c h1
  .rw[List.mem_singleton] at h1;subst h1;exact hc
 .have:=h.bU;rw[List.map_append,List.sum_append];simp only[List.map_cons,List.map_nil,List.sum_cons,List.sum_nil];omega
 .have:=h.seqs x hx;rw[List.length_append,List.length_singleton];omega
 .have:=h.bl;rw[List.length_append,List.length_singleton];omega
theorem qf.fresh {q:Nat} {L:List aw} (hm:cR L q M t) (hs:eW M+400<=aG n*480):qf n t q (dj L) []:=by
 obtain⟨h1,h2,h3,h4⟩:=hm.wI;exact⟨h1,fun c hc=>(by cases hc),by simpa using h3,by show eW ((dj L).map cT)+400<=_;rw[h2];exact hs,fun x hx=>by have:=h4 x hx;simpa using this,Nat.zero_le _⟩
theorem jd {q:Nat} {L:List aw} (hm:cR L q M t):iY (dj L) []=M:=hm.wI.2.1
theorem Gg.done {qs:List Int} (hm:cR v.L v.seq M t) (hc: ∀ p ∈ cs,je p) (hq:v.seq+1<=1000000000) (hp: ∀ j q,v.snaps j=some q->(q:Int) ∈ qs) {lg:Nat} {j:Int} (h:Gg v olds j):
 Gg { v with log:=lg,L:=eE qs (gE v.seq cs v.L),seq:=v.seq+1 } olds j:=by
 rcases h with h1 | ⟨q,Mo,h1,h2,h3,h4,h5⟩
 .exact .inl h1
 .refine .inr ⟨q,Mo,h1,h2,Nat.le_succ_of_le h3,h4,fun ky=>?_⟩;show ew ky (q:Int) (eE qs (gE v.seq cs v.L))=_;rw[(hm.done hc hq).kept (hp j q h1),hm.then cs (by omega),h5]
theorem gZ.LU {safe:Nat} (h:gZ n D lim i E bs safe) (hl:lim<=4*k+8) (hi:i<=2*k+2) (hc: ∀ m,safe<=m->m<=bs.length->qf n t k E (bs.take m)) {Ms:List (List Kv)} (hM: ∀ m,safe<=m->m<=bs.length->iY E (bs.take m) ∈ Ms) (hn:dA D (20000*k+100)):mS n t k D Ms:=⟨hn,fun keep torn bytes=>by
 obtain⟨S',h1,m,h2,h3,sf',x,h4⟩:=h keep torn bytes;refine⟨S',h1,sf',lim,i,E,bs.take m,x,?_,hc m h2 h3,hM m h2 h3,hl,hi,hn.bS⟩;have hl:(bs.take m).length=m:=by rw[List.length_take];omega
 rw[hl];exact h4⟩
theorem FU.LU (h:FU n D lim i E E' bs) (hl:lim<=4*k+8) (hi:i+2<=2*k+2) (hc1:qf n t k E bs) (hc2:qf n t k E' []) (h1:iY E bs=M) (h2:iY E' []=M) (hn:dA D (20000*k+100)) {Ms:List (List Kv)} (hM:M ∈ Ms):mS n t k D Ms:=⟨hn,fun keep torn bytes=>by
 obtain⟨S',o,sf',h3 | h3⟩:=h keep torn bytes
 .obtain⟨x,h3⟩:=h3;exact⟨S',o,sf',lim,i,E,bs,x,h3,hc1,by rw[h1];exact hM,hl,by omega,hn.bS⟩
 .exact⟨S',o,sf',lim,i+2,E',[],false,h3,hc2,by rw[h2];exact hM,hl,hi,hn.bS⟩⟩
theorem uE.bS (h:uE n t k D S v M olds) (hk:k<=100000):mS n t (k+1) D [M]:=⟨h.cnt.mono (by omega),fun keep torn bytes=>by
 obtain⟨sf,lim,i,E,bs,⟨slot,turn,lo,a,b,LF,y,e1,e2,hd⟩,hlog,hcon,hmap,hl,hi⟩:=h.BJ;obtain⟨S',h1,m,h2,h3,sf',h4⟩:=hd.bS (by omega) keep torn bytes;have hm:m=bs.length:=by omega
 subst hm;rw[List.take_length] at h4;exact⟨S',h1,sf',lim+1,i,E,bs,_,h4,hcon.mono (Nat.le_refl _) (by have:=h.bU.1;omega),by rw[hmap];exact List.mem_singleton_self _,by omega,by omega,(h.cnt.mono (by omega)).bS⟩⟩
end
section
variable {n t k:Nat} {D D':Dk} {S S':aN} {v:Sd} {M:List Kv} {olds:Int->Option (List Kv)} {sf:Nat->Nat} {lim i slot turn:Nat} {lo:Bool} {a b:Nat × Nat} {LF:List (List UInt8)} {E E':List aw} {bs:List (List cJ)} {cs:List cJ} {x:Bool} {qs:List Int}
structure Ho (n t k:Nat) (v:Sd) (M:List Kv) (olds:Int->Option (List Kv)) (cs:List cJ):Prop where
 mem:cR v.L v.seq M t
 snaps: ∀ j,Gg v olds j
 bU:v.seq<=k/\v.bU<=k/\v.next<=k+1
 kk:k<=100000
 bat:pQ cs
 siz:eW (bq cs M)+400<=aG n*480
 log:bz (aJ cs).length<=bC n
theorem BF (hp:Ho n t k v M olds cs) (hd:iC n D slot turn lo a b LF none sf lim i E (bs++[cs]) bs.length) (hcon:qf n t v.seq E bs) (hmap:iY E bs=M) (hl:lim<=4*(k+1)+8) (hi:i<=2*(k+1)+2) (hc:dA D (20000*(k+1)+100)) (hq:tO v.snaps v.bU qs):
 uE n (t+cs.length) (k+1) D.flush.1 (cq slot turn n i lo a b (ak (ab E)) LF none) { v with log:=i+1,L:=eE qs (gE v.seq cs v.L),seq:=v.seq+1 } (bq cs M) olds:=by
 obtain⟨h1,h2⟩:=hd.sync;have hk:=hp.kk;have hf:=hp.bU;refine⟨⟨_,lim,i,E,bs++[cs],h2.BJ,rfl,hcon.snoc hp.bat (by rw[hmap];exact hp.siz),by rw[lR,hmap],hl,hi⟩,(hp.mem.done hp.bat.each (by omega)).tidy qs,fun j=>?_,hc.flush hd.good.fils.off,?_⟩
 .exact(hp.snaps j).done hp.mem hp.bat.each (by omega) (fun j q hjq=>(hq.1 _).2 ⟨j,q,hjq,rfl⟩)
 .show v.seq+1<=k+1/\v.bU<=k+1/\v.next<=k+1+1;omega
theorem CI (hp:Ho n t k v M olds cs) (h:gZ n D' (lim+1) i E (bs++[cs]) bs.length) (hcon:qf n t v.seq E bs) (hmap:iY E bs=M) (hs:eW M+400<=aG n*480) (hl:lim+1<=4*(k+1)+8) (hi:i<=2*(k+1)+2) (hc:dA D' (20000*(k+1)+100)):
 mS n (t+cs.length) (k+1) D' [M,bq cs M]:=by
 have hf:=hp.bU;have hlen:(bs++[cs]).length=bs.length+1:=by simp
 have htk: ∀ m,bs.length<=m->m<=(bs++[cs]).length->(bs++[cs]).take m=bs\/(bs++[cs]).take m=bs++[cs]:=fun m h1 h2=>by
  rw[hlen] at h2;by_cases hm:m=bs.length
  .left;rw[hm,List.take_left]
  .right;rw[List.take_of_length_le (by rw[hlen];omega)]
 have hc1:=hcon.mono (Nat.le_add_right t cs.length) (show v.seq<=k+1 by omega);have hc2:=(hcon.snoc hp.bat (by rw[hmap];exact hp.siz)).mono (Nat.le_refl _) (show v.seq+1<=k+1 by omega);refine h.LU hl hi (fun m h1 h2=>?_) (fun m h1 h2=>?_) hc
 .rcases htk m h1 h2 with h3 | h3<;>rw[h3]
  .exact hc1
  .exact hc2
 .rcases htk m h1 h2 with h3 | h3<;>rw[h3]
  .rw[hmap];exact List.mem_cons_self
  .rw[lR,hmap];exact List.mem_cons_of_mem _ (List.mem_singleton_self _)
theorem tB {L:List aw} {q:Nat} (hm:cR L q M t): ∀ p ∈ M,p.1.length<=200/\p.2.length<=20000:=fun p hp=>by
 obtain⟨h1,h2,h3,h4⟩:=hm.wI;rw[<-h2] at hp;obtain⟨e,he,rfl⟩:=List.mem_map.1 hp;have h5:=(h1.each e he).1.key;have h6:=(h1.each e he).1.val;exact⟨by show e.key.length<=200;omega,by show e.value.length<=20000;omega⟩
end
theorem mK {w:World} {A:Option Addr} {qs:List En} (h:aH w A (qs.flatMap cM)) (hn:0<qs.length): ∃ b o,A=some ⟨b,o,none⟩/\ ∀ i (hi:i<qs.length),
 w.cell? ⟨b,o+i*2,none⟩=some (aO qs[i].key)/\w.cell? ⟨b,o+i*2+1,none⟩=some (aO qs[i].value):=by
 obtain⟨b,o,rfl,_⟩:=aH.elem (f:=cM) (k:=2) (fun _=>rfl) (by decide) h hn;refine⟨b,o,rfl,fun i hi=>?_⟩;obtain⟨b',o',e,hc⟩:=aH.elem (f:=cM) (k:=2) (fun _=>rfl) (by decide) h hi;injection e with e
 injection e with e1 e2
 subst e1;subst e2;refine⟨by simpa [cM] using hc 0 (by decide),?_⟩;have:=hc 1 (by decide);rw[<-Nat.add_assoc] at this;simpa [cM] using this
section
variable {w0 w:World} {F:SP}
theorem Jj (w:World):(Instr.makeMap 192 none).run Tryz.prog w = .ok (.map (some w.heap.size)) (w.alloc (.map #[] 0)):=by
 simp[Instr.makeMap]
abbrev Ko (mb n:Nat) (M:List Kv):SP:=jr Tryz.prog 9 mb n (fK M)
theorem FP {M:List Kv} (h:M.Pairwise nH) {i:Nat} (hi:i<M.length): ∀ q ∈ M.take i,q.1≠M[i].1:=fun q hq=>by
 have h2:=h;rw[<-List.take_append_drop i M,List.drop_eq_getElem_cons hi] at h2;exact dG ((List.pairwise_append.1 h2).2.2 q hq _ List.mem_cons_self)
theorem I6 (n:Nat) (b d s:Nat) (v:Sd) (A:Option Addr) (c:Nat) (ps:List Pu) (D:Dk) (M:List Kv) (h:Sat w0 (dD b d s v*(ae d D*F)) w) (hn:64<=n/\n<=65536) (hD:D.cells.length=n) (hb: ∀ W,Sat w0 F W->aH W A (ps.flatMap dQ)/\eJ W ps) (hok: ∀ p ∈ ps,je p.bE)
 (hp:ps.length<=10000) (hL:v.L.length<=80000) (hM:eP v.seq v.L=M) (hMs:M.Pairwise nH) (hsz: ∀ p ∈ M,p.1.length<=200/\p.2.length<=20000):
 Calls Tryz.prog 69 #[.pointer (some ⟨b,0,none⟩),.slice A ps.length c] w fun x w'=>x = .returned (.bool (fh n (bq (ps.map Pu.bE) M) (ps.map Pu.bE)))/\Sat w0 (dD b d s v*(ae d D*F)) w':=by
 have hMl:M.length<=v.L.length:=by
  rw[<-hM];unfold eP;rw[List.length_map];exact(kY _ _ _).length_le
 obtain⟨tb,hr,mb,ns,_,hs0⟩:=h.db;have c0:w.cell? ⟨b,0,none⟩=some (.pointer (some ⟨d,0,none⟩)):=(hs0.of (dW ..)).cell 0;have HBl:Hid (Calls Tryz.prog 51 #[.pointer (some ⟨d,0,none⟩)] w fun e w'=>e = .returned (.int .i64 (n:Int))/\w=w'):=by
  have h9:=il d D w0 w _ h.av;rw[hD] at h9;exact h9
 have HSz:=ah (fun W=>tG n hn W);have HSc:Hid (∀ W,Sat w0 (dD b d s v*(Ko w.heap.size 0 []*(ae d D*F))) W->Calls Tryz.prog 24 #[.pointer (some ⟨b,0,none⟩),.slice none 0 0,.slice none 0 0,.int .i64 4611686018427387904] W (GU w0 (dD b d s v*(Ko w.heap.size 0 []*(ae d D*F))) M)):=fun W hW=>by
  have h9:=vi b d s v (none,0,[]) (none,0,[]) 4611686018427387904 (Rd.nil _ _) (Rd.nil _ _) hW (by omega);rw[Cb,hM,List.take_of_length_le (by show _<=4611686018427387904;omega)] at h9;exact h9
 have hmk:=Jj w;have HM0:Hid (Sat w0 (dD b d s v*(Ko w.heap.size 0 []*(ae d D*F))) (w.alloc (.map #[] 0))):=(h.yE (P:= Tryz.prog) (k:= 9)).av;obtain⟨mp,hmp⟩: ∃ mp,mp=w.heap.size:=⟨_,rfl⟩;obtain⟨w1,hw1⟩: ∃ w1,w1=w.alloc (.map #[] 0):=⟨_,rfl⟩;rw[<-hmp, <-hw1] at HM0 hmk;rw[<-hmp] at HSc;have HMs:=ah hMs;have HSzM:=ah hsz;have HOk:=ah hok;have HMl:=ah hMl;have HB:Hid (∀ W,Sat w0 F W->aH W A (ps.flatMap dQ)/\eJ W ps):=hb;have HOkC:Hid (∀ c ∈ ps.map Pu.bE,je c):=fun c hc=>by obtain⟨p,hp,rfl⟩:=List.mem_map.1 hc;exact hok p hp
 have HPS:=ah (qV HOkC.o hsz);have HPss:Hid ((bq (ps.map Pu.bE) M).Pairwise nH):=gO _ hMs;clear h hs0 hM hMs hsz hok hb hmp hw1 hMl hD;have HC0:=ah c0;clear c0;have c0:=HC0.o;have HKs:Hid (∀ W (A:Option Addr) (c:Nat) (l:List UInt8),Rd W A l->(convert 41 9 (.slice A l.length c)).run Tryz.prog W = .ok (zr l) W):=fun W A c l hr=>cK hr c
 go_enter Tryz.func69, Tryz.ntmps69;go_wp2_with (first
  | (go_at_call 51;(with_reducible refine HBl.o.mono ?_);rintro e wx ⟨rfl,rfl⟩)
  | (go_at_call 93;(with_reducible refine(HSz.o _).mono ?_);rintro e wx ⟨rfl,rfl⟩)
  | (go_at_call 24;(with_reducible refine(HSc.o _ HM0.o).mono ?_);rintro e w2 ⟨es,qs,B,cc,rfl,hin,hqs,hs2⟩;have HIn:=ah hin;have HQs:=ah hqs;have HS2:=ah (hs2.of (show _=Ko mp 0 []*(Row 65 2 (.slice B qs.length cc) qs.length (qs.flatMap cM)*(aW es*(dD b d s v*(ae d D*F)))) by ac_rfl));clear hin hqs hs2))
 clear hmk HM0 HSc HBl HSz c0 HC0;have HQl:Hid (qs.length=M.length):=by unfold Hid;rw[<-HQs.o,List.length_map]
 have hql:qs.length<=80000:=by have:=HQl.o;have:=HMl.o;omega
 go_loopw [28] (fun iv wr=> ∃ i:Nat,i<=qs.length/\iv = .int .i64 (i:Int)/\Hid (Sat w0 (Ko mp i (M.take i)*(Row 65 2 (.slice B qs.length cc) qs.length (qs.flatMap cM)*(aW es*(dD b d s v*(ae d D*F))))) wr)) (fun iv _=>qs.length - (intOf iv).toNat)
 case atStart=>exact⟨0,by omega,rfl,HS2.o⟩
 case round=>
  obtain⟨i,hi,rfl,HD⟩:=hrel;by_cases hlt:i<qs.length
  .obtain⟨lb,lo,hA,hq⟩:=mK HD.o.av.cj (by omega);subst hA;obtain⟨y0,y1⟩:=hq i hlt;have HRi:=ah (gu HD.o.bD _ (HIn.o _ (List.getElem_mem hlt)));have hiM:i<M.length:=by have:=HQl.o;omega
   have HMi:Hid (M[i]=cT qs[i].ao):=by
    unfold Hid;simp only[<-HQs.o,List.getElem_map]
   have HTk:Hid (M.take (i+1)=M.take i++[cT qs[i].ao]):=by
    unfold Hid;rw[List.take_add_one,List.getElem?_eq_getElem hiM,HMi.o];rfl
   have HFr:Hid (∀ q ∈ M.take i,q.1≠(cT qs[i].ao).1):=by have:=FP HMs.o hiM;rw[HMi.o] at this;exact this
   have HLn:Hid ((cT qs[i].ao).1.length<=200/\(cT qs[i].ao).2.length<=20000):=by have:=HSzM.o _ (List.getElem_mem hiM);rw[HMi.o] at this;exact this
   have hii:(i:Int)<qs.length:=by omega
   clear hq hiM HMi;generalize qs[i]=x at*
   obtain⟨⟨kA,kc,kl⟩,⟨vA,vc,vl⟩,sq,dd⟩:=x;replace y0:_=some (Value.slice kA kl.length kc):=y0;replace y1:_=some (Value.slice vA vl.length vc):=y1;replace HTk:Hid (M.take (i+1)=M.take i++[(kl,vl)]):=HTk;replace HFr:Hid (∀ q ∈ M.take i,q.1≠kl):=HFr;obtain⟨hkl,hvl⟩:kl.length<=200/\vl.length<=20000:=HLn.o;go_upto_region 6 with fail;have hs2:=HD.o.af 65 #[.slice kA kl.length kc,.slice vA vl.length vc];obtain⟨W4,hW4⟩: ∃ W4,W4=wr.alloc (.cells #[.slice kA kl.length kc,.slice vA vl.length vc] 65):=⟨_,rfl⟩;rw[<-hW4] at hs2;rw[<-hW4];have hst:=HKs.o W4 kA kc kl (by rw[hW4];exact HRi.o.1.alloc _);clear hW4 y0 y1;have x0:=hs2.cell 0;have x1:=hs2.cell 1;obtain⟨W5,hrun,hs5,_⟩:=hs2.av.nf (t:= 192) Tryz.underlying9 Tryz.underlying192 kl (by omega) (.int .i64 ((kl.length:Int)+vl.length+40)) (by unfold maxLen;omega);have HS5:=ah hs5.bF;clear hs2 hs5;go_wp2_with fail;go_roundw
   .refine⟨i+1,by omega,by push_cast;rfl,?_⟩;have h9:=JI (M:=M.take i) (p:=(kl,vl)) HFr.o;rw[show ((((kl,vl):Kv).1.length+((kl,vl):Kv).2.length+40:Nat):Int)=(kl.length:Int)+vl.length+40 by simp] at h9;show Sat w0 (jr Tryz.prog 9 mp (i+1) (fK (M.take (i+1)))*_) W5;rw[HTk.o,h9];exact HS5.o
   .simp[intOf];omega
  .have hie:i=M.length:=by have:=HQl.o;omega
   have HS3:Hid (Sat w0 (Ko mp M.length M*(dD b d s v*(ae d D*F))) wr):=by
    have h9:=HD.o;rw[hie,List.take_length] at h9;exact h9.bF.bF
   have hml:M.length<=80000:=by have:=HMl.o;omega
   clear hie HD;go_wp2_with fail;go_loopw [47] (fun iv wr2=> ∃ i:Nat,i<=ps.length/\iv = .int .i64 (i:Int)/\Hid (Sat w0 (Ko mp (M.length+i) (bq ((ps.map Pu.bE).take i) M)*(dD b d s v*(ae d D*F))) wr2)) (fun iv _=>ps.length - (intOf iv).toNat)
   case atStart=>exact⟨0,by omega,rfl,HS3.o⟩
   case round=>
    obtain⟨i,hi,rfl,HD⟩:=hrel;by_cases hlt:i<ps.length
    .obtain⟨lb,lo,hA,hq⟩:=gx (HB.o wr HD.o.right.right.right).1 (by omega);obtain⟨y0,y1,y2⟩:=hq i hlt;have HRi:=ah ((HB.o wr HD.o.right.right.right).2 _ (List.getElem_mem hlt));have HOi:=ah (HOk.o _ (List.getElem_mem hlt));have HMm:=ah (List.getElem_mem hlt);have HPt:Hid (bq ((ps.map Pu.bE).take (i+1)) M=fG ps[i].bE (bq ((ps.map Pu.bE).take i) M)):=by
      unfold Hid;rw[List.take_add_one,List.getElem?_eq_getElem (by rw[List.length_map];exact hlt),List.getElem_map];unfold bq;rw[List.foldl_append];rfl
     have HSo:Hid ((bq ((ps.map Pu.bE).take i) M).Pairwise nH):=gO _ HMs.o;have hii:(i:Int)<ps.length:=by omega
     have HA:=ah hA;clear hq hA;generalize bq ((ps.map Pu.bE).take i) M=N0 at*
     generalize ps[i]=x at*
     obtain⟨⟨kA,kc,kl⟩,⟨vA,vc,vl⟩,dd⟩:=x;replace y0:_=some (Value.slice kA kl.length kc):=y0;replace y1:_=some (Value.slice vA vl.length vc):=y1;replace y2:_=some (Value.bool dd):=y2;have hkl:kl.length<=128:=HOi.o.key.2;have hvl:vl.length<=16384:=HOi.o.val;rw[HA.o];go_upto_region 11 with fail;have hs2:=HD.o.af 43 #[.slice kA kl.length kc,.slice vA vl.length vc,.bool dd];obtain⟨W4,hW4⟩: ∃ W4,W4=wr.alloc (.cells #[.slice kA kl.length kc,.slice vA vl.length vc,.bool dd] 43):=⟨_,rfl⟩;rw[<-hW4] at hs2;rw[<-hW4];have hr4:Rd W4 kA kl:=by rw[hW4];exact HRi.o.1.alloc _
     have hst:=HKs.o W4 kA kc kl hr4;obtain⟨bx,hbx⟩: ∃ bx,bx=wr.heap.size:=⟨_,rfl⟩;rw[<-hbx] at hs2;rw[<-hbx];clear hW4 hbx y0 y1 y2;have x0:=hs2.cell 0;have x1:=hs2.cell 1;obtain⟨W5,hrun,hs5,hch⟩:=hs2.av.nf (t:= 192) Tryz.underlying9 Tryz.underlying192 kl (by omega) (.int .i64 ((kl.length:Int)+vl.length+40)) (by unfold maxLen;omega);have z0:W5.cell? ⟨bx,0,none⟩=some (Value.slice kA kl.length kc):=hs5.av.cell 0;have z2:W5.cell? ⟨bx,2,none⟩=some (Value.bool dd):=hs5.av.cell 2;have HPk:=ah (Lj HSo.o (⟨kl,vl,dd⟩:cJ))
     cases dd
     .have HS5:=ah hs5.bF;clear hs2 hs5 hch;go_wp2_with fail;go_roundw
      .refine⟨i+1,by omega,by push_cast;rfl,?_⟩;have h9:=HPk.o;rw[if_neg (by simp),show ((((⟨kl,vl,false⟩:cJ).key.length+(⟨kl,vl,false⟩:cJ).value.length+40:Nat)):Int)=(kl.length:Int)+vl.length+40 by simp] at h9;rw[HPt.o];show Sat w0 (jr Tryz.prog 9 mp (M.length+(i+1)) (fK (fG ⟨kl,vl,false⟩ N0))*_) W5;rw[h9];exact HS5.o
      .simp[intOf];omega
     .have hst5:=HKs.o W5 kA kc kl ((HB.o W5 hs5.right.right.right.right).2 _ HMm.o).1;obtain⟨W6,hrun2,hs6,_⟩:=hs5.EC (t:= 192) Tryz.underlying9 Tryz.underlying192 kl (by omega) 0;have HS5:=ah hs6.bF;clear hs2 hs5 hch hs6;go_wp2_with fail;go_roundw
      .refine⟨i+1,by omega,by push_cast;rfl,?_⟩;have h9:=HPk.o;rw[if_pos rfl,show ((((⟨kl,vl,true⟩:cJ).key.length+(⟨kl,vl,true⟩:cJ).value.length+40:Nat)):Int)=(kl.length:Int)+vl.length+40 by simp] at h9;rw[HPt.o];show Sat w0 (jr Tryz.prog 9 mp (M.length+(i+1)) (fK (fG ⟨kl,vl,true⟩ N0))*_) W6;rw[h9];exact HS5.o
      .simp[intOf];omega
    .have hie:i=ps.length:=by omega
     have HS4:Hid (Sat w0 (Ko mp (M.length+ps.length) (bq (ps.map Pu.bE) M)*(dD b d s v*(ae d D*F))) wr):=by
      have h9:=HD.o;rw[hie,List.take_of_length_le (by rw[List.length_map];omega)] at h9;exact h9
     clear hie HD;obtain⟨N,hN⟩: ∃ N,N=bq (ps.map Pu.bE) M:=⟨_,rfl⟩;rw[<-hN] at HS4 HPS HPss;have HNn:=ah hN;have hsm:eW N<=2000000000:=by
      have h8:=CC HPS.o.1;have h9:=HPS.o.2;rw[List.length_map] at h9;omega
     have HSm:=ah hsm;have HLd:=ah (fun W (hW:Sat w0 F W)=>zx A c ps W (HB.o W hW).1 (HB.o W hW).2 (fun p hp=>⟨(HOk.o p hp).key.2,(HOk.o p hp).val⟩) (by omega));clear hN;obtain⟨ob,hob,Dm,hown,hsays⟩:=HS4.o.G7;have HOb:=ah hob;have HOwn:=ah hown;have HSays:=ah hsays;clear hob hown hsays HS4 hsm;go_wp2_with (at_range;refine wpList_range_own _ rfl _ 192 rfl 9 3 (Maps.string_keyed Tryz.underlying9) Tryz.underlying192 cF mp (M.length+ps.length) Dm rfl HOwn.o ?_;intro w6 hrg0 hg0 hs0);go_frame
     have HS6:=ah (HOb.o.yz hrg0 hg0 hs0);obtain⟨R,hR⟩: ∃ R,R=wr.heap.size:=⟨_,rfl⟩;rw[<-hR] at HS6;rw[<-hR];clear hrg0 hg0 hs0 hR;go_loopw [12] (fun nv wr3=> ∃ (left:Lit->Bool) (cnt m:Nat),nv = .int .i64 (m:Int)/\m<=2000000400/\Hid (m=400+nt left N/\Sat w0 (Jh Tryz.prog 9 mp R (M.length+ps.length) Dm left cnt*(dD b d s v*(ae d D*F))) wr3)) (fun _ wr3=>wr3.rangeLeft mp R)
     case atStart=>exact⟨Maps.has Dm,Maps.size Dm,400,rfl,by omega,by rw[zV HPss.o HSays.o],HS6.o⟩
     case round=>
      obtain⟨left,cnt,m,rfl,hm,HD⟩:=hrel;have HG:=ah HD.o.2.rg;go_wp2_with (at_next;refine wpList_next_ranges _ rfl _ rfl 9 (Maps.string_keyed Tryz.underlying9) cF Value.string id (fun key kl hkey=>(by obtain⟨x,rfl,_⟩:=WideMaps.string_of_keyOf Tryz.underlying9 hkey;exact⟨x,rfl⟩)) (fun v y hv=>⟨v,rfl⟩) mp R (M.length+ps.length) Dm left cnt rfl HG.o ?_ ?_)
      .intro hc0 hl0;have HL0:=ah hl0;clear hc0 hl0;have HEn:Hid (m=400+eW N):=by have h9:=HD.o.1;rw[Hf HL0.o] at h9;exact h9
       have HS7:Hid (Sat w0 (dD b d s v*(ae d D*F)) wr):=HD.o.2.right;have hib:=(jP hn.2).2.1;obtain⟨im,him⟩: ∃ im,im=aG n:=⟨_,rfl⟩;have HIm:=ah him;rw[<-him] at hib;rw[<-him];clear him HD;have HQc:Hid (fh n N (ps.map Pu.bE)=(decide (aG n*480<eW N+400) || decide (bC n<bz (aJ (ps.map Pu.bE)).length))):=rfl;have HS8:=ah HS7.o.right.right;by_cases hfl:im*480<m
       .have hfl2:(im:Int)*480<m:=by omega
        have hres:fh n (bq (ps.map Pu.bE) M) (ps.map Pu.bE)=true:=by
         rw[<-HNn.o,HQc.o, <-HIm.o,decide_eq_true (by have:=HEn.o;omega)];rfl
        have HRes:=ah hres;clear hfl hres;go_wp2_with fail;go_ret;refine⟨?_,HS7.o⟩;rw[HRes.o];rfl
       .have hfl2:¬ (im:Int)*480<m:=by omega
        have HLw:=ah (HLd.o wr HS8.o);obtain⟨bl,hbl⟩: ∃ bl,bl=aJ (ps.map Pu.bE):=⟨_,rfl⟩;have HBl2:=ah hbl;rw[<-hbl] at HLw HQc;obtain⟨ln,hln⟩: ∃ ln,ln=bC n:=⟨_,rfl⟩;have HLn:=ah hln;rw[<-hln] at HQc;rw[<-hln];obtain⟨nd,hnd⟩: ∃ nd,nd=bz bl.length:=⟨_,rfl⟩;have HNd:=ah hnd;rw[<-hnd] at HQc;have HNeed:Hid (∀ W,bl.length<=9223372036854775807->Calls Tryz.prog 116 #[.int .i64 (bl.length:Int)] W fun e w'=>e = .returned (.int .i64 (nd:Int))/\W=w'):=fun W h=>by rw[hnd];exact xJ bl.length W h
        have HBll:Hid (bl.length<=9223372036854775807):=by
         unfold Hid;rw[hbl];have: ∀ l:List cJ,(∀ c ∈ l,je c)->(aJ l).length<=l.length*20000:=fun l=>by
          induction l with
          | nil=>intro _;exact Nat.le_refl _
          | cons p l ih=>
           intro h;have h1:=ih fun q hq=>h q (List.mem_cons_of_mem _ hq)
           have h2:=h p List.mem_cons_self;have h3:=h2.key;have h4:=h2.val;rw[gT,List.length_append,gp,List.length_cons];omega
         have h9:=this _ HOkC.o;rw[List.length_map] at h9;omega
        clear hbl hln hnd hfl;by_cases hnl:ln<nd
        .have hnl2:(ln:Int)<nd:=by omega
         have hres:fh n (bq (ps.map Pu.bE) M) (ps.map Pu.bE)=true:=by
          rw[<-HNn.o,HQc.o,decide_eq_true hnl,Bool.or_true]
         have HRes:=ah hres;clear hnl hres;go_wp2_with (first
          | (go_at_call 71;(with_reducible refine HLw.o.mono ?_);rintro e w8 ⟨LB,ld,rfl,hs8⟩;have HS9:=ah (HS7.o.new hs8.aP);clear hs8)
          | (go_at_call 116;(with_reducible refine(HNeed.o _ HBll.o).mono ?_);rintro e wx ⟨rfl,rfl⟩))
         go_ret;refine⟨?_,HS9.o⟩;rw[HRes.o];rfl
        .have hnl2:¬ (ln:Int)<nd:=by omega
         have hres:fh n (bq (ps.map Pu.bE) M) (ps.map Pu.bE)=false:=by
          rw[<-HNn.o,HQc.o,decide_eq_false hnl,Bool.or_false, <-HIm.o,decide_eq_false (by have:=HEn.o;omega)]
         have HNl:Hid (decide (ln<nd)=false):=decide_eq_false hnl;have HRes:=ah hres;clear hnl hres;go_wp2_with (first
          | (go_at_call 71;(with_reducible refine HLw.o.mono ?_);rintro e w8 ⟨LB,ld,rfl,hs8⟩;have HS9:=ah (HS7.o.new hs8.aP);clear hs8)
          | (go_at_call 116;(with_reducible refine(HNeed.o _ HBll.o).mono ?_);rintro e wx ⟨rfl,rfl⟩))
         go_ret;refine⟨?_,HS9.o⟩;rw[HRes.o];first | rfl | exact congrArg (fun q=>Ending.returned (.bool q)) HNl.o
      .intro x c1 kl y1 y2 w7 cnt' hkey hlk hv hat hrg' hlt hg hsz hen;obtain⟨x',ex,rfl,hwf⟩:=WideMaps.string_of_keyOf Tryz.underlying9 hkey;injection ex with ex
       subst ex;unfold cF at hv;injection hv with hv
       injection hv with hv1 hv2
       subst hv1;have hfx:fK N x.data.toList=some c1:=Hy HSays.o (fun zd=>hat zd);obtain⟨vv,hv1,hv2⟩: ∃ vv,ba x.data.toList N=some vv/\ .int .i64 ((x.data.toList.length+vv.length+40:Nat):Int)=c1:=by
        unfold fK at hfx
        cases hf:ba x.data.toList N with
        | none=>rw[hf] at hfx;cases hfx
        | some vv=>rw[hf] at hfx;injection hfx with hfx;exact⟨vv,rfl,hfx⟩
       subst hv2;have hvis:=sC HPss.o hv1 hlk;obtain⟨z,hz⟩: ∃ z,z=x.data.toList.length+vv.length+40:=⟨_,rfl⟩;rw[<-hz] at hen hvis;have hle:=CY (fun q=>left q && !q.sameKey (.string x.data.toList)) N;have hm2:m+z<=2000000400:=by have:=HD.o.1;have:=HSm.o;omega
       have HVis:=ah hvis;have HS7:=ah (HD.o.2.BY hg hrg');have HLt:Hid (cnt'<cnt):=hlt;clear hkey hlk hat hrg' hlt hg hsz hwf hfx hv1 hz hvis hle;go_wp2_with fail;go_roundw
       case rel=>
        refine⟨fun q=>left q && !q.sameKey (.string x.data.toList),cnt',m+z,by push_cast;rfl,hm2,?_,HS7.o⟩;have h1:=HD.o.1;have h2:=HVis.o;omega
       case measure=>rw[HS7.o.rg.left_eq,HG.o.left_eq];exact HLt.o
end
theorem zO (L:List aw):12<=(aR L).length:=by
 unfold aR Et dp fL;simp only[List.length_append,aB];omega
theorem Aw (L:List aw):mr [] [] L=L:=by
 unfold mr;rw[List.filter_eq_self];intro x _;unfold Kj;have:Op.bytesLess x.key []=false:=by rw[iQ];cases x.key<;>rfl
 rw[this];rfl
theorem AO {L:List aw} (h:L.Pairwise dJ) (hs: ∀ x ∈ L,x.seq<=fm):qb [] [] L=L:=by rw[Cr h hs,Aw]
structure Ny (w:World) (E:List aw) (A:Option Addr) (c L0 m:Nat) (Q:Option Addr) (mc a:Nat) (B:Option Addr) (d:Nat) (wr:World):Prop where
 st:(m=L0/\Q=A/\mc=c/\a=0/\B=none/\d=0/\aq No w wr)\/(m=0/\ ∃ es:List En,a=es.length/\es.map En.ao=E/\Sat w (Row 120 4 (.slice B a d) a (es.flatMap cu)*aW es) wr)
theorem wm (A:Option Addr) (c:Nat) (E:List aw) (w:World) (hE:fV E) (hn:E.length<=60000) (h:Rd w A (ab E)) (hc:(ab E).length<=c) (hm:c<=maxLen):
 Calls Tryz.prog 60 #[.slice A (ab E).length c] w (mI w E):=by
 have hm2:=hm;unfold maxLen at hm2;obtain⟨i0,hi0,hz0,hz1,hz2⟩:=info_parts kh;have Hi0:=ah hi0;have Hz0:=ah hz0;have Hz1:=ah hz1;have Hz2:=ah hz2;obtain⟨L0,hL0⟩: ∃ L0,L0=(ab E).length:=⟨_,rfl⟩;have HSt:Hid (Ny w E A c L0 L0 A c 0 none 0 w):=⟨.inl ⟨rfl,rfl,rfl,rfl,rfl,rfl,aq.refl _ _⟩⟩;have HR:Hid (Rd w A (ab E)):=h;have HL0:=ah hL0;have HIm:=ah hE;rw[<-hL0] at hc ⊢;have hL1:L0<=9223372036854775807:=by omega
 clear hi0 hz0 hz1 hz2 h hL0 hE;go_enter Tryz.func60, Tryz.ntmps60;go_wp2_with fail;go_loopw [0,3] (fun bvv ov wr=> ∃ (m mc a d:Nat) (Q B:Option Addr),m<=L0/\m<=mc/\mc<=9223372036854775807/\bvv = .slice Q m mc/\ov = .slice B a d/\Hid (Ny w E A c L0 m Q mc a B d wr)) (fun bvv _ _=>lenOf bvv)
 case atStart=>exact⟨L0,c,0,0,A,none,by omega,hc,by omega,rfl,rfl,HSt.o⟩
 case round=>
  obtain⟨m,mc,a,d,Q,B,hm0,hmc,hmx,rfl,rfl,HU⟩:=hrel;have hfin:m=0->mI w E (.returned (.slice B a d)) wr:=fun h0=>by
   rcases HU.o.st with ⟨h1,rfl,rfl,rfl,rfl,rfl,k⟩ | ⟨_,es,h1,h2,h3⟩
   .have h4:E=[]:=by
     cases hE:E with
     | nil=>rfl
     | cons e L=>
      have h5:=HL0.o;rw[hE] at h5;unfold ab at h5;rw[List.length_append,aB] at h5;omega
    subst h4;refine⟨[],none,0,rfl,rfl,?_⟩;exact(((Sat.start w).new k).aI 120 4)
   .subst h1;exact⟨es,B,d,rfl,h2,h3⟩
  have HF:=ah hfin;clear hfin;by_cases h4:4<m
  .obtain⟨hmL,hQ,hmcc,ha,hB,hd,hk⟩:m=L0/\Q=A/\mc=c/\a=0/\B=none/\d=0/\aq No w wr:=by
    rcases HU.o.st with h1 | ⟨h1,_⟩
    .exact h1
    .omega
   subst hQ;subst hmcc;subst ha;subst hB;subst hd;have HK:=ah hk;obtain⟨e0,E0,hE⟩: ∃ e0 E0,E=e0::E0:=by
    cases hE:E with
    | nil=>
     have h5:=HL0.o;rw[hE] at h5;have h6:(ab []).length=0:=rfl;omega
    | cons e L=>exact⟨e,L,rfl⟩
   have hpk:ab E=ai (aR E).length 4++aR E:=by rw[hE];rfl
   have hbd:cd E=0:=HIm.o.build (by omega);have hsq:=HIm.o.seq;have hbl:=oh E fun e he=>⟨(HIm.o.each e he).1.key.2,(HIm.o.each e he).1.val⟩
   have hsE:pZ E<=E.length*16512:=by
    have: ∀ l:List aw,(∀ e ∈ l,Cv e)->pZ l<=l.length*16512:=fun l=>by
     induction l with
     | nil=>intro _;exact Nat.le_refl _
     | cons e l ih=>
      intro h;have h1:=ih fun x hx=>h x (List.mem_cons_of_mem _ hx)
      have h2:=h e List.mem_cons_self;have h3:=h2.key;have h4:=h2.val;unfold pZ at h1 ⊢;rw[List.map_cons,List.sum_cons,List.length_cons];omega
    exact this E fun e he=>(HIm.o.each e he).1
   have hmt:m=(aR E).length+4:=by
    have h5:=HL0.o;rw[hpk,List.length_append,aB] at h5;omega
   obtain⟨t,ht⟩: ∃ t,t=(aR E).length:=⟨_,rfl⟩;rw[<-ht] at hmt hbl;have hrd:Rd wr Q (ab E):=HR.o.new hk;rw[hpk, <-ht] at hrd;have h4l:(ai t 4).length=4:=aB _ _;obtain⟨g,o,rfl,_⟩:=hrd (by intro hq;have:=congrArg List.length hq;simp[aB] at this);have hget:=iW (some ⟨g,o,none⟩) mc (ai t 4) 4 h4l.symm t (JY (by omega)) wr (by have h9:=hrd.take 4;rwa [List.take_left' h4l] at h9) (by omega);have hrt:Rd wr (some ⟨g,o+4,none⟩) (aR E):=by
    have h9:=hrd.drop (k:=4) (cap:=mc) (by rw[List.length_append,h4l];omega) (by rw[List.length_append,h4l, <-ht];omega);rw[if_neg (by omega),List.drop_left' h4l,Option.map_some,Addr.add_lit] at h9;exact h9
   have HGet:=ah hget;have hm4:m - 4=t:=by omega
   have HOp:=ah (Ng (some ⟨g,o+4,none⟩) (m - 4) (mc - 4) E hbd hsq wr (by omega) hrt (by omega) (by unfold maxLen;omega));have HEv:Hid (qb [] [] E=E):=AO HIm.o.MQ (fun x hx=>by have:=(HIm.o.each x hx).1.seq;unfold fm;omega);have hmn:min (4+(t:Int)) (m:Int)=m:=by omega
   have hw64:IntKind.i64.wrap (t:Int)=t:=by rw[IntKind.wrap_i64];omega
   have hmI:(4:Int)<m:=by omega
   have htb:t<=2000000000:=by omega
   have HMt:=ah hmt;have HTt:=ah ht;clear hmL hk hE hpk hbd hsq hbl hsE hmt ht hrd h4l hget hrt HU hm4;go_upto_region 4 with (go_at_call 105;(with_reducible refine HGet.o.mono ?_);rintro y wx ⟨rfl,rfl⟩)
   go_upto_region 6 with (go_at_call 106;(with_reducible refine HOp.o.mono ?_);rintro y w2 ⟨T,es,rfl,hes,htb,k2⟩;have HES:=ah hes;have HTb:=ah htb;have HK2:=ah (HK.o.tr k2);clear hes htb k2)
   have hrg:=zQ (none,0,[]) (none,0,[]) T es w2 (Rd.nil _ _) (Rd.nil _ _) HTb.o;rw[HES.o] at hrg;dsimp only at hrg;rw[HEv.o] at hrg;have HRg:Hid (Calls Tryz.prog 107 #[.pointer (some ⟨T,0,none⟩),.slice none 0 0,.slice none 0 0] w2 (mI w2 E)):=hrg;clear hrg HOp HGet;go_wp2_with (first
    | (go_at_call 107;(with_reducible refine HRg.o.mono ?_);rintro y w3 ⟨fs,FA,fc,rfl,hfs,hs3⟩;have HFs:=ah hfs;have HFl:Hid (fs.length=E.length):=(by unfold Hid;rw[<-hfs,List.length_map]);have HS3:=ah ((((Sat.start w).new HK2.o).join hs3 (bf (bM _ _ _ _ _) (cS _))).aI 120 4);have hfe:fs.length<=60000:=(by have:=HFl.o;omega);clear hfs hs3)
    | (at_builtin;refine au rfl (.tmp 27) (.tmp 29) 116 rfl 120 i0 _ 4 64 Tryz.underlying116 Hi0.o Hz0.o Hz1.o Hz2.o rfl (by decide) (.slice none 0 0) 0 [] rfl w _ (by exact HS3.o) FA fs.length fc (fs.flatMap cu) rfl (by exact(HS3.o.right.of (aj _ _ _)).cj) (by exact qx fs) (by exact rm fs) (by unfold maxLen;omega) (by omega) ?_;intro A5 c5 w5 hs5;have HS5:=ah hs5;clear hs5))
   go_roundw
   .refine⟨0,mc - m,fs.length,c5,(if mc=m then some ⟨g,o,none⟩ else some ⟨g,o+m,none⟩),A5,by omega,by omega,by omega,by simp,by simp,⟨.inr ⟨rfl,fs,rfl,HFs.o,?_⟩⟩⟩;have h1:=HS5.o;rw[List.nil_append,Nat.zero_add] at h1;have h2:=h1.of (show _=(Row 120 4 (.slice FA fs.length fc) fs.length (fs.flatMap cu)*aV)*(Row 120 4 (.slice A5 fs.length c5) fs.length (fs.flatMap cu)*aW fs) by ac_rfl);exact h2.right
   .simp[lenOf];omega
  .have h4':¬ (4:Int)<m:=by omega
   have hmz:m=0:=by
    rcases HU.o.st with ⟨h1,rfl,rfl,rfl,rfl,rfl,k⟩ | ⟨h1,_⟩
    .have h5:=HL0.o
     cases hE:E with
     | nil=>rw[hE] at h5;have h6:(ab []).length=0:=rfl;omega
     | cons e L=>
      rw[hE] at h5;unfold ab at h5;rw[List.length_append,aB] at h5;have:=zO (e::L);omega
    .exact h1
   have HFz:=ah (HF.o hmz);clear hmz;go_wp2_with fail;go_ret;exact HFz.o
def az (es:List En):List Kv:=es.map fun q=>cT q.ao
theorem bB (es:List En):(az es).length=es.length:=by unfold az;rw[List.length_map]
theorem pL {qs:List En} {i:Nat} (hi:i<qs.length):(az qs).take (i+1)=(az qs).take i++[(qs[i].key.2.2,qs[i].value.2.2)]:=by
 unfold az;rw[List.take_add_one,List.getElem?_eq_getElem (by rw[List.length_map];exact hi),List.getElem_map];rfl
theorem GR {es fs:List En} {i:Nat} (ha:i<es.length) (hb:i<fs.length) (h:(es[i].key.2.2,es[i].value.2.2)≠(fs[i].key.2.2,fs[i].value.2.2)):az es≠az fs:=fun e=>by
 apply h;have h1:=congrArg (fun l=>l[i]?) e;unfold az at h1;simp only[List.getElem?_map,List.getElem?_eq_getElem ha,List.getElem?_eq_getElem hb,Option.map_some,Option.some.injEq] at h1;exact h1
section
variable {w0 w:World} {F:SP}
theorem uB (A B:Option Addr) (c d:Nat) (es fs:List En) (w:World) (h1:aH w A (es.flatMap cM)) (r1:jH w es) (h2:aH w B (fs.flatMap cM)) (r2:jH w fs) (hn:es.length<=1000000):
 Calls Tryz.prog 23 #[.slice A es.length c,.slice B fs.length d] w fun x w'=>x = .returned (.bool (decide (az es=az fs)))/\aq No w w':=by
 have H1:=ah h1;have H2:=ah h2;have R1:=ah r1;have R2:=ah r2;clear h1 h2 r1 r2;by_cases hl:es.length=fs.length
 case neg=>
  have hD:decide (az es=az fs)=false:=decide_eq_false fun e=>hl (by have:=congrArg List.length e;rw[bB,bB] at this;exact this)
  rw[hD];have hne:((es.length:Int) !=fs.length)=true:=by rw[bne_iff_ne];omega
  clear hD hl;go_enter Tryz.func23, Tryz.ntmps23;go_wp2_with fail;go_ret;exact⟨rfl,aq.refl _ _⟩
 case pos=>
  obtain⟨n,hN⟩: ∃ n,n=es.length:=⟨_,rfl⟩;have HNa:Hid (es.length=n):=hN.symm;have HNb:Hid (fs.length=n):=by unfold Hid;omega
  rw[<-hl, <-hN];rw[<-hN] at hn;clear hN hl;go_enter Tryz.func23, Tryz.ntmps23;go_wp2_with fail;go_loopw [5] (fun iv wr=> ∃ (i:Nat),i<=n/\iv = .int .i64 (i:Int)/\Hid ((az es).take i=(az fs).take i/\aq No w wr)) (fun iv _=>n - (intOf iv).toNat)
  case atStart=>exact⟨0,by omega,rfl,rfl,aq.refl _ _⟩
  case round=>
   obtain⟨i,hi,rfl,HD⟩:=hrel;by_cases hlt:i<n
   .have hia:i<es.length:=by rw[HNa.o];exact hlt
    have hib:i<fs.length:=by rw[HNb.o];exact hlt
    obtain⟨la,oa,rfl,hqa⟩:=mK (H1.o.new HD.o.2) (by omega);obtain⟨lb,ob,rfl,hqb⟩:=mK (H2.o.new HD.o.2) (by omega);obtain⟨y0,y1⟩:=hqa i hia;obtain⟨z0,z1⟩:=hqb i hib;have ra:=R1.o _ (List.getElem_mem hia);have rb:=R2.o _ (List.getElem_mem hib);have ta:=pL hia;have tb:=pL hib;have tn:=fun h=>GR (es:=es) (fs:=fs) hia hib h
    generalize es[i]=p at*
    generalize fs[i]=q at*
    obtain⟨⟨kA,kc,kl⟩,⟨vA,vc,vl⟩,eq1,dd1⟩:=p;obtain⟨⟨kB,lc,ml⟩,⟨vB,uc,ul⟩,eq2,dd2⟩:=q;replace y0:_=some (Value.slice kA kl.length kc):=y0;replace y1:_=some (Value.slice vA vl.length vc):=y1;replace z0:_=some (Value.slice kB ml.length lc):=z0;replace z1:_=some (Value.slice vB ul.length uc):=z1;dsimp only at ta tb tn;have hk:=HD.o.2.drew;obtain⟨SA,SB,B1,e1,e2,e3,e4⟩:=mg kl ml;obtain⟨TA,TB,C1,g1,g2,g3,g4⟩:=mg vl ul;have s1:=cK (ra.1.new hk) kc;have s2:=cK (rb.1.new hk) lc;have s3:=cK (ra.2.new hk) vc;have s4:=cK (rb.2.new hk) uc;dsimp only at s1 s2 s3 s4;rw[<-e1] at s1;rw[<-e2] at s2;rw[<-g1] at s3;rw[<-g2] at s4;have Y0:=ah y0;have Y1:=ah y1;have Z0:=ah z0;have Z1:=ah z1;have S1:=ah s1;have S2:=ah s2;have S3:=ah s3;have S4:=ah s4;have TAk:=ah ta;have TBk:=ah tb;have TN:=ah tn;have E4:=ah e4;have G4:=ah g4;have hii:(i:Int)<n:=by omega
    clear hqa hqb ra rb ta tb tn hk e1 e2 e4 g1 g2 g4 y0 y1 z0 z1 s1 s2 s3 s4 hia hib
    cases B1
    .go_upto_region 6 with fail;refine wp_region_held_drew (S:=fun w'=>w'.cell? ⟨la,oa+i*2,none⟩=some (.slice kA kl.length kc)/\w'.cell? ⟨la,oa+i*2+1,none⟩=some (.slice vA vl.length vc)/\w'.cell? ⟨lb,ob+i*2,none⟩=some (.slice kB ml.length lc)/\w'.cell? ⟨lb,ob+i*2+1,none⟩=some (.slice vB ul.length uc)/\(convert 41 9 (.slice kA kl.length kc)).run Tryz.prog w' = .ok (.string SA) w'/\(convert 41 9 (.slice kB ml.length lc)).run Tryz.prog w' = .ok (.string SB) w'/\(convert 41 9 (.slice vA vl.length vc)).run Tryz.prog w' = .ok (.string TA) w'/\(convert 41 9 (.slice vB ul.length uc)).run Tryz.prog w' = .ok (.string TB) w') (by kernel_rfl) ⟨(by exact Y0.o),(by exact Y1.o),(by exact Z0.o),(by exact Z1.o),S1.o,S2.o,S3.o,S4.o⟩ ?_;intro hS0;refine an 0 1 2 3 ?_;refine an 4 5 6 7 ?_;refine an 8 9 10 11 ?_;refine cm 12 13 ?_;refine cD 14 ?_;refine cD 15 ?_;refine cD 16 ?_;refine cD 17 ?_;refine cD 18 ?_;refine cD 19 ?_;refine cD 20 ?_;refine cD 21 ?_;refine cD 22 ?_;refine cD 23 ?_;refine cD 24 ?_;refine cD 25 ?_;refine cD 26 ?_;refine cH 27 ?_;refine wpAnyH_done (by kernel_rfl) ?_ _;go_wp2_with fail;go_ret;refine⟨?_,HD.o.2.drew⟩;rw[decide_eq_false (TN.o fun e=>by injection e with e5 e6;have:=E4.o;rw[decide_eq_true e5] at this;cases this)];rfl
    .cases C1
     .go_upto_region 6 with fail;refine wp_region_held_drew (S:=fun w'=>w'.cell? ⟨la,oa+i*2,none⟩=some (.slice kA kl.length kc)/\w'.cell? ⟨la,oa+i*2+1,none⟩=some (.slice vA vl.length vc)/\w'.cell? ⟨lb,ob+i*2,none⟩=some (.slice kB ml.length lc)/\w'.cell? ⟨lb,ob+i*2+1,none⟩=some (.slice vB ul.length uc)/\(convert 41 9 (.slice kA kl.length kc)).run Tryz.prog w' = .ok (.string SA) w'/\(convert 41 9 (.slice kB ml.length lc)).run Tryz.prog w' = .ok (.string SB) w'/\(convert 41 9 (.slice vA vl.length vc)).run Tryz.prog w' = .ok (.string TA) w'/\(convert 41 9 (.slice vB ul.length uc)).run Tryz.prog w' = .ok (.string TB) w') (by kernel_rfl) ⟨(by exact Y0.o),(by exact Y1.o),(by exact Z0.o),(by exact Z1.o),S1.o,S2.o,S3.o,S4.o⟩ ?_;intro hS0;refine an 0 1 2 3 ?_;refine an 4 5 6 7 ?_;refine an 8 9 10 11 ?_;refine an 12 13 14 15 ?_;refine an 16 17 18 19 ?_;refine an 20 21 22 23 ?_;refine an 24 25 26 27 ?_;refine wpAnyH_done (by kernel_rfl) ?_ _;go_wp2_with fail;go_ret;refine⟨?_,HD.o.2.drew⟩;rw[decide_eq_false (TN.o fun e=>by injection e with e5 e6;have:=G4.o;rw[decide_eq_true e6] at this;cases this)];rfl
     .go_upto_region 6 with fail;refine wp_region_held_drew (S:=fun w'=>w'.cell? ⟨la,oa+i*2,none⟩=some (.slice kA kl.length kc)/\w'.cell? ⟨la,oa+i*2+1,none⟩=some (.slice vA vl.length vc)/\w'.cell? ⟨lb,ob+i*2,none⟩=some (.slice kB ml.length lc)/\w'.cell? ⟨lb,ob+i*2+1,none⟩=some (.slice vB ul.length uc)/\(convert 41 9 (.slice kA kl.length kc)).run Tryz.prog w' = .ok (.string SA) w'/\(convert 41 9 (.slice kB ml.length lc)).run Tryz.prog w' = .ok (.string SB) w'/\(convert 41 9 (.slice vA vl.length vc)).run Tryz.prog w' = .ok (.string TA) w'/\(convert 41 9 (.slice vB ul.length uc)).run Tryz.prog w' = .ok (.string TB) w') (by kernel_rfl) ⟨(by exact Y0.o),(by exact Y1.o),(by exact Z0.o),(by exact Z1.o),S1.o,S2.o,S3.o,S4.o⟩ ?_;intro hS0;refine an 0 1 2 3 ?_;refine an 4 5 6 7 ?_;refine an 8 9 10 11 ?_;refine an 12 13 14 15 ?_;refine an 16 17 18 19 ?_;refine an 20 21 22 23 ?_;refine an 24 25 26 27 ?_;refine wpAnyH_done (by kernel_rfl) ?_ _;go_wp2_with fail;go_roundw
      .refine⟨i+1,by omega,by push_cast;rfl,?_,HD.o.2.drew⟩;rw[TAk.o,TBk.o,HD.o.1,of_decide_eq_true E4.o.symm,of_decide_eq_true G4.o.symm]
      .simp[intOf];omega
   .have hie:i=n:=by omega
    subst hie;have HE:Hid (decide (az es=az fs)=true):=by
     have h1:=HD.o.1;rw[List.take_of_length_le (by rw[bB,HNa.o];omega),List.take_of_length_le (by rw[bB,HNb.o];omega)] at h1;exact decide_eq_true h1
    go_wp2_with fail;go_ret;exact⟨by rw[HE.o];rfl,HD.o.2⟩
end
end Go.Proofs.YtmbaiglpgaoogaaGreat
