/- Joined, as they were built one by one: StpD Sto14 StpG Sto10. -/
import Derived.Test.YtmbaiglpgaoogaaGreatV18
import Derived.Test.YtmbaiglpgaoogaaGreatV28
import Derived.Test.YtmbaiglpgaoogaaGreatV31
import Derived.Test.YtmbaiglpgaoogaaGreatV34
set_option maxHeartbeats 16000000
namespace Go.Proofs.YtmbaiglpgaoogaaGreat
open Go.RowKit
set_option linter.unusedVariables false
set_option maxRecDepth 100000
section
variable {D:Dk} {S:Spc} {sf:Nat->Nat} {lim:Nat} {add:List Fi} {drop:List Int} {fs:List Fl}
inductive SwA (S:Spc) (D:Dk) (sf:Nat->Nat) (lim:Nat) (add:List Fi) (fs:List Fl) (r:Spc × Dk × Int):Prop where
 | ok (D':Dk) (e:r=(⟨1 - S.slot,S.turn+1,fs⟩,D',0)) (g:Good D' ⟨1 - S.slot,S.turn+1,fs⟩ (lenAt fs) (lim+1)) (c: ∀ m,Cnt D m->Cnt D' (m+1)) (l:D'.cells.length=D.cells.length) (a:D'.armed<=D.armed)
 | off (ha:D.armed≠0) (D':Dk) (e:r=(S,D',21)) (o:D'.off=true) (c: ∀ m,Cnt D m->Cnt D' (m+1)) (l:D'.cells.length=D.cells.length)
  (f: ∀ keep torn bytes,(∃ fs',openX (D'.crash keep torn bytes)=(some ⟨S.slot,S.turn,fs'⟩,0)/\Fewer sf S.files fs'/\Good (D'.crash keep torn bytes) ⟨S.slot,S.turn,fs'⟩ (lenAt fs') (lim+1))\/
   (∃ fs',openX (D'.crash keep torn bytes)=(some ⟨1 - S.slot,S.turn+1,fs'⟩,0)/\Fewer (fun num=>if (num:Int) ∈ add.map (·.num) then 0 else sf num) fs fs'/\Good (D'.crash keep torn bytes) ⟨1 - S.slot,S.turn+1,fs'⟩ (lenAt fs') (lim+2)))
theorem sw_any (hg:Good D S sf lim) (hlim:lim+2<=1000000000) (hm:S.may add drop=true) (hc:(S.files.length:Int)+add.length - drop.length<=24)
  (hx:addX D.cells.length (S.turn+1) add S.lie (S.files.filter fun f=> !drop.contains (f.num:Int))=some fs) (hs:sortN fs=fs):SwA S D sf lim add fs (S.switch add drop D):=by
 have h:=switch_cases hg (by omega) add drop
 cases h with
 | no h1 e=>rw[hm] at h1;cases h1
 | many h1 h2 e=>omega
 | full h1 h2 h3 e=>rw[hx] at h3;cases h3
 | off fs' h1 h2 h3 h4 hn e=>
  rw[hx] at h3;injection h3 with h3
  subst h3;rw[hs] at hn e;refine .off (by omega) _ e (took_off h4) (fun m hm=>hm.took) rfl fun keep torn bytes=>?_
  have hcm:Came (D.wr (1 - S.slot) (sealB (S.turn+1) (fs.map Fl.hd))) ((D.took (1 - S.slot) (sealB (S.turn+1) (fs.map Fl.hd))).crash keep torn bytes):=by
   rw[took_crash];exact came_crash (wr_wf hg.fils.wf (by have:=hg.fils.two;omega) (sealB_len (by rw[List.length_map];exact hn.ok.count)))
  exact found_head hg hn hlim hcm
 | ok fs' h1 h2 h3 h4 hn e g=>
  rw[hx] at h3;injection h3 with h3
  subst h3;rw[hs] at hn e g;rw[e] at g;have hl:(sealB (S.turn+1) (fs.map Fl.hd)).length=512:=sealB_len (by rw[List.length_map];exact hn.ok.count);have hwf:WfD (D.wr (1 - S.slot) (sealB (S.turn+1) (fs.map Fl.hd))):=wr_wf hg.fils.wf (by have:=hg.fils.two;omega) hl;exact .ok _ e g (fun n hn=>hn.wr.flush rfl) (came_flush hwf rfl).len (by rw[flush_armed rfl];exact Nat.sub_le _ _)
end
section
variable {n:Nat} {D D':Dk} {slot turn:Nat} {lo:Bool} {a b:Nat × Nat} {LF:List (List UInt8)} {y:Xf} {sf:Nat->Nat} {lim i:Nat} {E E':List Ent} {bs:List (List Chn)} {safe:Nat} {S:Spc} {cs:List Chn} {x:Bool}
theorem CrOut.up {l l':Nat} (h:CrOut n D l i E bs safe) (h1:l<=l') (h2:l'<=1000000000):CrOut n D l' i E bs safe:=fun keep torn bytes=>by
 obtain⟨S',e,m,m1,m2,sf',x,slot,turn,lo,a,b,LF,y,e1,e2,e3⟩:=h keep torn bytes;exact⟨S',e,m,m1,m2,sf',x,slot,turn,lo,a,b,LF,y,e1,e2,e3.limUp h1 h2⟩
inductive Sw1R (n:Nat) (D:Dk) (slot turn:Nat) (lo:Bool) (a b:Nat × Nat) (LF:List (List UInt8)) (lim i:Nat) (E:List Ent) (bs:List (List Chn)) (r:Spc × Dk × Int):Prop where
 | ok (D':Dk) (sf':Nat->Nat) (e:r=(stS (1 - slot) (turn+1) n i lo a b (cutsB (packB E)) LF (some (turn+1,1,[])),D',0)) (h:Dsx n D' (1 - slot) (turn+1) lo a b LF (some (turn+1,1,[])) sf' (lim+1) i E bs bs.length) (c: ∀ m,Cnt D m->Cnt D' (m+1)) (r:D'.armed<=D.armed)
 | off (ha:D.armed≠0) (S':Spc) (D':Dk) (e:r=(S',D',21)) (o:D'.off=true) (h:CrOut n D' (lim+2) i E bs bs.length) (c: ∀ m,Cnt D m->Cnt D' (m+1)) (l:D'.cells.length=n)
theorem Dsx.sw1 (h:Dsx n D slot turn lo a b LF none sf lim i E bs bs.length) (hlim:lim+2<=1000000000) (hi:i<=2147483000):
  Sw1R n D slot turn lo a b LF lim i E bs ((stS slot turn n i lo a b (cutsB (packB E)) LF none).switch [⟨(i:Int)+2,0,imgN n⟩] [] D):=by
 obtain⟨f1,f2,f3⟩:=h.fit;have hsw:=sw_any (add:=[⟨(i:Int)+2,0,imgN n⟩]) (drop:=[]) h.good hlim (may_third ⟨h.num.1,hi⟩ f3) (by have:=st_few slot turn n i lo a b (cutsB (packB E)) LF none;show ((stS slot turn n i lo a b (cutsB (packB E)) LF none).files.length:Int)+1 - 0<=24;omega) (by rw[h.len];exact add_third f1 f3 f2) st_sort
 cases hsw with
 | ok D' e g c l ar=>
  have e':(stS slot turn n i lo a b (cutsB (packB E)) LF none).switch [⟨(i:Int)+2,0,imgN n⟩] [] D=(stS (1 - slot) (turn+1) n i lo a b (cutsB (packB E)) LF (some (turn+1,1,[])),D',0):=e;have g':Good D' (stS (1 - slot) (turn+1) n i lo a b (cutsB (packB E)) LF (some (turn+1,1,[]))) (lenAt (stS (1 - slot) (turn+1) n i lo a b (cutsB (packB E)) LF (some (turn+1,1,[]))).files) (lim+1):=g;have h6:=Cra.all h.tel;rw[List.length_map] at h6;refine .ok D' _ e' ⟨g',l.trans h.len,h.big,h.num,h.tel,?_,?_,Nat.le_refl _⟩ c ar
  .rw[lenAt_log (IF:=cutsB (packB E))];exact h6
  .rw[lenAt_image];exact Nat.le_refl _
 | off ha D' e o c l f=>
  refine .off ha _ D' e o (fun keep torn bytes=>?_) c (l.trans h.len);have hcl:(D'.crash keep torn bytes).cells.length=n:=by rw[crash_len,l];exact h.len
  rcases f keep torn bytes with ⟨fs',o1,o2,o3⟩ | ⟨fs',o1,o2,o3⟩
  .obtain⟨m,m1,m2,sf',m3⟩:=found_st hcl h.big h.num h.cra h.safeI o2 (good_lim o3 (by omega) (by omega:lim+2<=1000000000));exact⟨_,o1,m,m1,m2,sf',_,m3⟩
  .have o2':Fewer (fun num=>if ((num:Nat):Int) ∈ [(i:Int)+2] then 0 else sf num) (stS (1 - slot) (turn+1) n i lo a b (cutsB (packB E)) LF (some (turn+1,1,[]))).files fs':=o2;obtain⟨m,m1,m2,sf',m3⟩:=found_st (sl:=1 - slot) (tu:=turn+1) (y:=some (turn+1,1,[])) hcl h.big h.num (by
    show Cra LF _ _ (if ((i+1:Nat):Int) ∈ [(i:Int)+2] then 0 else sf (i+1));rw[if_neg (by intro h;have:=List.mem_singleton.1 h;omega)];exact h.cra) (by
    show _<=(if ((i:Nat):Int) ∈ [(i:Int)+2] then 0 else sf i);rw[if_neg (by intro h;have:=List.mem_singleton.1 h;omega)];exact h.safeI) o2' o3
   exact⟨_,o1,m,m1,m2,sf',_,m3⟩
inductive FillR (n:Nat) (D:Dk) (slot turn:Nat) (lo:Bool) (a b:Nat × Nat) (LF:List (List UInt8)) (u v:Nat) (lim i:Nat) (E:List Ent) (bs:List (List Chn)) (ps:List (List UInt8)) (r:Spc × Dk × Int):Prop where
 | ok (D':Dk) (sf':Nat->Nat) (e:r=(stS slot turn n i lo a b (cutsB (packB E)) LF (some (u,v,ps)),D',0)) (h:Dsx n D' slot turn lo a b LF (some (u,v,ps)) sf' lim i E bs bs.length) (c: ∀ m,Cnt D m->Cnt D' (m+ps.length)) (r:D'.armed<=D.armed)
 | off (ha:D.armed≠0) (S':Spc) (D':Dk) (e:r=(S',D',21)) (o:D'.off=true) (h:CrOut n D' (lim+1) i E bs bs.length) (c: ∀ m,Cnt D m->Cnt D' (m+ps.length)) (l:D'.cells.length=n)
theorem Dsx.fill {u v:Nat} (h:Dsx n D slot turn lo a b LF (some (u,v,[])) sf lim i E bs bs.length) (hlim:lim+1<=1000000000) {ps:List (List UInt8)} (hp: ∀ p ∈ ps,p.length<=480) (hl:ps.length<=imgN n):
  FillR n D slot turn lo a b LF u v lim i E bs ps (Spc.appsL ((i:Int)+2) ps (stS slot turn n i lo a b (cutsB (packB E)) LF (some (u,v,[]))) D):=by
 have ha:=apps_cases h.good st_third hp (show 0+ps.length<=imgN n by omega)
 cases ha with
 | ok D' e g c l r=>
  simp only at e g;rw[st_grow_third (u,v,[]) ps] at e g;exact .ok D' sf e ⟨g,l.trans h.len,h.big,h.num,h.tel,h.cra,h.safeI,h.safe⟩ c r
 | off ha S' D' Dv j e o g cr c l=>
  simp only at g;rw[st_grow_third (u,v,[]) (ps.take j)] at g;refine .off ha S' D' e o (fun keep torn bytes=>?_) c (l.trans h.len);obtain⟨gs,f1,f2,f3⟩:=found_crash g hlim (came_crash (keep:=keep) (torn:=torn) (bytes:=bytes) g.fils.wf);obtain⟨m,m1,m2,sf',m3⟩:=found_st (by rw[<-cr,crash_len,l];exact h.len) h.big h.num h.cra h.safeI f2 f3;exact⟨_,by rw[cr];exact f1,m,m1,m2,sf',_,by rw[cr];exact m3⟩
inductive Sw2R (n:Nat) (D:Dk) (slot turn:Nat) (lo:Bool) (a b:Nat × Nat) (LF:List (List UInt8)) (u v:Nat) (lim i:Nat) (E E':List Ent) (bs:List (List Chn)) (r:Spc × Dk × Int):Prop where
 | ok (D':Dk) (sf':Nat->Nat) (e:r=(stS (1 - slot) (turn+1) n (i+2) (!lo) (u,v) (turn+1,1) (cutsB (packB E')) [] none,D',0)) (h:Dsx n D' (1 - slot) (turn+1) (!lo) (u,v) (turn+1,1) [] none sf' (lim+1) (i+2) E' [] 0) (c: ∀ m,Cnt D m->Cnt D' (m+1)) (r:D'.armed<=D.armed)
 | off (ha:D.armed≠0) (S':Spc) (D':Dk) (e:r=(S',D',21)) (o:D'.off=true) (h: ∀ keep torn bytes, ∃ S',openX (D'.crash keep torn bytes)=(some S',0)/\ ∃ sf',((∃ x,Dsk n (D'.crash keep torn bytes) S' sf' (lim+2) i E bs bs.length x)\/Dsk n (D'.crash keep torn bytes) S' sf' (lim+2) (i+2) E' [] 0 false)) (c: ∀ m,Cnt D m->Cnt D' (m+1)) (l:D'.cells.length=n)
theorem Dsx.sw2 {u v:Nat} (h:Dsx n D slot turn lo a b LF (some (u,v,cutsB (packB E'))) sf lim i E bs bs.length) (hsf:(cutsB (packB E')).length<=sf (i+2)) (hlim:lim+2<=1000000000) (hi:i<=2147483000):
  Sw2R n D slot turn lo a b LF u v lim i E E' bs ((stS slot turn n i lo a b (cutsB (packB E)) LF (some (u,v,cutsB (packB E')))).switch [⟨(i:Int)+3,0,logN n⟩] [(i:Int),(i:Int)+1] D):=by
 obtain⟨f1,f2,f3⟩:=h.fit;have hsw:=sw_any (add:=[⟨(i:Int)+3,0,logN n⟩]) (drop:=[(i:Int),(i:Int)+1]) h.good hlim (may_swap ⟨h.num.1,hi⟩ f2) (by have:=st_few slot turn n i lo a b (cutsB (packB E)) LF (some (u,v,cutsB (packB E')));simp only[List.length_cons,List.length_nil];omega) (by rw[h.len];exact add_swap f1 f3 f2 _) st_sort
 cases hsw with
 | ok D' e g c l ar=>
  have e':(stS slot turn n i lo a b (cutsB (packB E)) LF (some (u,v,cutsB (packB E')))).switch [⟨(i:Int)+3,0,logN n⟩] [(i:Int),(i:Int)+1] D=(stS (1 - slot) (turn+1) n (i+2) (!lo) (u,v) (turn+1,1) (cutsB (packB E')) [] none,D',0):=e;have g':Good D' (stS (1 - slot) (turn+1) n (i+2) (!lo) (u,v) (turn+1,1) (cutsB (packB E')) [] none) (lenAt (stS (1 - slot) (turn+1) n (i+2) (!lo) (u,v) (turn+1,1) (cutsB (packB E')) [] none).files) (lim+1):=g;have h6:=Cra.all Tel.nil;refine .ok D' _ e' ⟨g',l.trans h.len,h.big,by have:=h.num;omega,Tel.nil,?_,?_,Nat.le_refl _⟩ c ar
  .rw[lenAt_log (IF:=cutsB (packB E'))];exact h6
  .rw[lenAt_image];exact Nat.le_refl _
 | off ha D' e o c l f=>
  refine .off ha _ D' e o (fun keep torn bytes=>?_) c (l.trans h.len);have hcl:(D'.crash keep torn bytes).cells.length=n:=by rw[crash_len,l];exact h.len
  rcases f keep torn bytes with ⟨fs',o1,o2,o3⟩ | ⟨fs',o1,o2,o3⟩
  .obtain⟨m,m1,m2,sf',m3⟩:=found_st hcl h.big h.num h.cra h.safeI o2 (good_lim o3 (by omega) (by omega:lim+2<=1000000000));have hm:m=bs.length:=by omega
   subst hm;rw[List.take_length] at m3;exact⟨_,o1,sf',.inl ⟨_,m3⟩⟩
  .have o2':Fewer (fun num=>if ((num:Nat):Int) ∈ [(i:Int)+3] then 0 else sf num) (stS (1 - slot) (turn+1) n (i+2) (!lo) (u,v) (turn+1,1) (cutsB (packB E')) [] none).files fs':=o2;obtain⟨m,m1,m2,sf',m3⟩:=found_st (sl:=1 - slot) (tu:=turn+1) (bs:=[]) (safe:=0) hcl h.big (by have:=h.num;omega) (by
    show Cra [] _ _ (if ((i+2+1:Nat):Int) ∈ [(i:Int)+3] then 0 else sf (i+2+1));rw[if_pos (by rw[List.mem_singleton];omega)];exact Cra.all Tel.nil) (by
    show _<=(if ((i+2:Nat):Int) ∈ [(i:Int)+3] then 0 else sf (i+2));rw[if_neg (by intro h;have:=List.mem_singleton.1 h;omega)];exact hsf) o2' o3
   have hm:m=0:=by simpa using m2
   subst hm;exact⟨_,o1,sf',.inr m3⟩
theorem few24 {q:Nat} (h:q<=3):(q:Int)+(([]:List Fi).length:Nat) - ((1:Nat):Int)<=24:=by
 rw[List.length_nil];omega
inductive BackR (n:Nat) (D:Dk) (slot turn:Nat) (lo:Bool) (a b:Nat × Nat) (LF:List (List UInt8)) (lim i:Nat) (E:List Ent) (bs:List (List Chn)) (r:Spc × Dk × Int):Prop where
 | ok (D':Dk) (sf':Nat->Nat) (e:r=(stS (1 - slot) (turn+1) n i lo a b (cutsB (packB E)) LF none,D',0)) (h:Dsx n D' (1 - slot) (turn+1) lo a b LF none sf' (lim+1) i E bs bs.length) (c: ∀ m,Cnt D m->Cnt D' (m+1)) (r:D'.armed<=D.armed)
 | off (ha:D.armed≠0) (S':Spc) (D':Dk) (e:r=(S',D',21)) (o:D'.off=true) (h:CrOut n D' (lim+2) i E bs bs.length) (c: ∀ m,Cnt D m->Cnt D' (m+1)) (l:D'.cells.length=n)
theorem Dsx.back {z:Nat × Nat × List (List UInt8)} (h:Dsx n D slot turn lo a b LF (some z) sf lim i E bs bs.length) (hlim:lim+2<=1000000000):
  BackR n D slot turn lo a b LF lim i E bs ((stS slot turn n i lo a b (cutsB (packB E)) LF (some z)).switch [] [(i:Int)+2] D):=by
 obtain⟨f1,f2,f3⟩:=h.fit;have hm:=may_back (slot:=slot) (turn:=turn) (n:=n) (i:=i) (lo:=lo) (a:=a) (b:=b) (IF:=cutsB (packB E)) (LF:=LF) z;have hx:=add_back (slot:=slot) (turn:=turn) (n:=n) (i:=i) (lo:=lo) (a:=a) (b:=b) (IF:=cutsB (packB E)) (LF:=LF) z;have hso:=st_sort (slot:=slot) (turn:=turn) (n:=n) (i:=i) (lo:=lo) (a:=a) (b:=b) (IF:=cutsB (packB E)) (LF:=LF) (x:=none);have hfw:((stS slot turn n i lo a b (cutsB (packB E)) LF (some z)).files.length:Int)+(([]:List Fi).length:Nat) - (([(i:Int)+2]:List Int).length:Nat)<=24:=by
  rw[show ([(i:Int)+2]:List Int).length=1 from rfl];exact few24 (st_few slot turn n i lo a b (cutsB (packB E)) LF (some z))
 have hsw:=sw_any (add:=[]) (drop:=[(i:Int)+2]) (fs:=(stS slot turn n i lo a b (cutsB (packB E)) LF none).files) h.good hlim hm hfw (by rw[h.len];exact hx) hso
 cases hsw with
 | ok D' e g c l ar=>
  have e':(stS slot turn n i lo a b (cutsB (packB E)) LF (some z)).switch [] [(i:Int)+2] D=(stS (1 - slot) (turn+1) n i lo a b (cutsB (packB E)) LF none,D',0):=e;have g':Good D' (stS (1 - slot) (turn+1) n i lo a b (cutsB (packB E)) LF none) (lenAt (stS (1 - slot) (turn+1) n i lo a b (cutsB (packB E)) LF none).files) (lim+1):=g;have h6:=Cra.all h.tel;rw[List.length_map] at h6;refine .ok D' _ e' ⟨g',l.trans h.len,h.big,h.num,h.tel,?_,?_,Nat.le_refl _⟩ c ar
  .rw[lenAt_log (IF:=cutsB (packB E))];exact h6
  .rw[lenAt_image];exact Nat.le_refl _
 | off ha D' e o c l f=>
  refine .off ha _ D' e o (fun keep torn bytes=>?_) c (l.trans h.len);have hcl:(D'.crash keep torn bytes).cells.length=n:=by rw[crash_len,l];exact h.len
  rcases f keep torn bytes with ⟨fs',o1,o2,o3⟩ | ⟨fs',o1,o2,o3⟩
  .obtain⟨m,m1,m2,sf',m3⟩:=found_st hcl h.big h.num h.cra h.safeI o2 (good_lim o3 (by omega) (by omega:lim+2<=1000000000));exact⟨_,o1,m,m1,m2,sf',_,m3⟩
  .have o2':Fewer (fun num=>if ((num:Nat):Int) ∈ ([]:List Int) then 0 else sf num) (stS (1 - slot) (turn+1) n i lo a b (cutsB (packB E)) LF none).files fs':=o2;obtain⟨m,m1,m2,sf',m3⟩:=found_st (sl:=1 - slot) (tu:=turn+1) hcl h.big h.num (by
    show Cra LF _ _ (if ((i+1:Nat):Int) ∈ ([]:List Int) then 0 else sf (i+1));rw[if_neg (by simp)];exact h.cra) (by
    show _<=(if ((i:Nat):Int) ∈ ([]:List Int) then 0 else sf i);rw[if_neg (by simp)];exact h.safeI) o2' o3
   exact⟨_,o1,m,m1,m2,sf',_,m3⟩
def fmS1 (sl tu n:Nat):Spc:=⟨sl,tu,[⟨2,2,imgN n,tu,1,[]⟩]⟩
theorem fm_one (hg:Good D ⟨slot,turn,[]⟩ sf lim) (hl:D.cells.length=n) (hn:64<=n/\n<=65536) (hlim:lim+2<=1000000000) (ha:D.armed=0):
  ∃ D',(Spc.mk slot turn []).switch [⟨2,0,imgN n⟩] [] D=(fmS1 (1 - slot) (turn+1) n,D',0)/\Good D' (fmS1 (1 - slot) (turn+1) n) (lenAt (fmS1 (1 - slot) (turn+1) n).files) (lim+1)/\(∀ m,Cnt D m->Cnt D' (m+1))/\D'.cells.length=n/\D'.armed=0:=by
 have h1:=sizes_fit hn.1;have h2:=img_le hn.2;have hfind: ∀ x,(Spc.mk slot turn []).find x=none:=fun x=>rfl
 have h3:(1:Int)<=imgN n:=by omega
 have hmay:(Spc.mk slot turn []).may [⟨2,0,imgN n⟩] []=true:=by
  simp[Spc.may,Spc.mayDrop,Spc.mayAdd,hfind,h3]
 have hsw:=sw_any (add:=[⟨2,0,imgN n⟩]) (drop:=[]) (fs:=(fmS1 (1 - slot) (turn+1) n).files) hg hlim hmay (by show (0:Int)+1 - 0<=24;decide) (by
  show addX _ (turn+1) [⟨2,0,imgN n⟩] [] []=_;have hpl:placeX D.cells.length ((imgN n:Nat):Int) 2 (sortF [])=(2,true):=by
   show (2,decide (((imgN n:Nat):Int)<=(D.cells.length:Int) - 2))=_;rw[decide_eq_true (by omega)]
  rw[addX_yes hpl];unfold addX;simp only[Int.toNat_natCast];rfl) rfl
 cases hsw with
 | ok D' e g c l ar=>exact⟨D',e,g,c,l.trans hl,by omega⟩
 | off ha2 D' e o c l f=>exact absurd ha ha2
theorem fm_two {a1 a2:Nat} (hg:Good D ⟨slot,turn,[⟨2,2,imgN n,a1,a2,[]⟩]⟩ sf lim) (hl:D.cells.length=n) (hn:64<=n/\n<=65536) (hlim:lim+2<=1000000000) (ha:D.armed=0):
  ∃ D' sf',(Spc.mk slot turn [⟨2,2,imgN n,a1,a2,[]⟩]).switch [⟨3,0,logN n⟩] [] D=(stS (1 - slot) (turn+1) n 2 true (a1,a2) (turn+1,1) (cutsB (packB [])) [] none,D',0)/\Dsx n D' (1 - slot) (turn+1) true (a1,a2) (turn+1,1) [] none sf' (lim+1) 2 [] [] 0/\(∀ m,Cnt D m->Cnt D' (m+1))/\D'.armed=0:=by
 have h1:=sizes_fit hn.1;have h2:=img_le hn.2;have h3:(1:Int)<=logN n:=by omega
 have hfind:(Spc.mk slot turn [⟨2,2,imgN n,a1,a2,[]⟩]).find 3=none:=rfl;have hmay:(Spc.mk slot turn [⟨2,2,imgN n,a1,a2,[]⟩]).may [⟨3,0,logN n⟩] []=true:=by
  simp[Spc.may,Spc.mayDrop,Spc.mayAdd,hfind,h3]
 have hsw:=sw_any (add:=[⟨3,0,logN n⟩]) (drop:=[]) (fs:=(stS (1 - slot) (turn+1) n 2 true (a1,a2) (turn+1,1) (cutsB (packB [])) [] none).files) hg hlim hmay (by show (1:Int)+1 - 0<=24;decide) (by
  show addX _ (turn+1) [⟨3,0,logN n⟩] [(2,imgN n)] [⟨2,2,imgN n,a1,a2,[]⟩]=_;have hpl:placeX D.cells.length ((logN n:Nat):Int) 2 (sortF [(2,imgN n)])=(2+imgN n,true):=by
   show placeX _ _ 2 [(2,imgN n)]=_;unfold placeX;rw[if_neg (by simp only[];omega)];unfold placeX;rw[decide_eq_true (by simp only[];omega)]
  rw[addX_yes hpl];unfold addX;simp only[Int.toNat_natCast];rfl) (sortN2 (by show 2<=3;omega))
 cases hsw with
 | ok D' e g c l ar=>
  have g':Good D' (stS (1 - slot) (turn+1) n 2 true (a1,a2) (turn+1,1) (cutsB (packB [])) [] none) (lenAt (stS (1 - slot) (turn+1) n 2 true (a1,a2) (turn+1,1) (cutsB (packB [])) [] none).files) (lim+1):=g;refine⟨D',_,e,⟨g',l.trans hl,hn.1,by omega,Tel.nil,?_,?_,Nat.le_refl _⟩,c,by omega⟩
  .rw[lenAt_log (IF:=cutsB (packB []))];exact Cra.all Tel.nil
  .rw[lenAt_image];exact Nat.le_refl _
 | off ha2 D' e o c l f=>exact absurd ha ha2
theorem fm_open (hg:Good D ⟨slot,turn,[]⟩ sf lim) (hlim:lim+1<=1000000000):openX D=(some ⟨slot,turn,[]⟩,0):=by
 obtain⟨gs,e1,e2,e3⟩:=found_again hg hlim
 match gs,e2 with
 | [],_=>exact e1
end
def fillX (x:Int) (ps:List (List UInt8)) (S:Spc) (D:Dk):Spc × Dk × Int:=
 if (Spc.appsL x ps S D).2.2=0 then ((Spc.appsL x ps S D).1,(Spc.appsL x ps S D).2.1.flush.1,(Spc.appsL x ps S D).2.1.flush.2) else Spc.appsL x ps S D
theorem cuts_last {r:List UInt8} (h0:r.length≠0) (h:r.length<=480):cutsB r=[r]:=by
 rw[cuts_step h0,List.take_of_length_le h,List.drop_eq_nil_of_le h];rfl
section
variable {w0 w:World} {F:SP} {s d n m:Nat} {D:Dk} {S:Spc} {sf:Nat->Nat} {lim:Nat} {b:List UInt8}
theorem fill_sp (x:Int) (A:Option Addr) (c:Nat) (hg:Good D S sf lim) (hc:Cnt D m) (hm:m+b.length<=999999000) (ha:D.armed<=9223372036854775807) (h:Sat w0 (SpaceP s d S*(Disk d D*F)) w) (hp: ∀ W,Sat w0 F W->Rd W A b) (hbc:b.length<=c) (hcm:c<=9223372036854775807):
  Calls Tryz.prog 124 #[.pointer (some ⟨s,0,none⟩),.int .i64 x,.slice A b.length c] w fun e w'=>e = .returned (.int .i64 (fillX x (cutsB b) S D).2.2)/\Sat w0 (SpaceP s d (fillX x (cutsB b) S D).1*(Disk d (fillX x (cutsB b) S D).2.1*F)) w':=by
 have HS:=ah h;have HG:=ah hg;have HC:=ah hc;have HA:=ah ha;have HP:Hid (∀ W,Sat w0 F W->Rd W A b):=hp;obtain⟨L0,hL0⟩: ∃ L0,L0=b.length:=⟨_,rfl⟩;have HL0:=ah hL0;rw[<-hL0] at hm hbc;rw[<-hL0];clear h hg hc ha hp hL0;go_enter Tryz.func124, Tryz.ntmps124;go_wp2_with fail;go_loopw [2] (fun sv wr=> ∃ (L c' k:Nat) (A':Option Addr),L<=c'/\c'<=9223372036854775807/\sv = .slice A' L c'/\k+L<=L0/\Hid (∃ (r:List UInt8) (S':Spc) (D':Dk),L=r.length/\Good D' S' sf lim/\Cnt D' (m+k)/\D'.armed<=9223372036854775807/\Spc.appsL x (cutsB b) S D=Spc.appsL x (cutsB r) S' D'/\(∀ W,Sat w0 F W->Rd W A' r)/\Sat w0 (SpaceP s d S'*(Disk d D'*F)) wr)) (fun sv _=>lenOf sv)
 case atStart=>exact⟨L0,c,0,A,hbc,hcm,rfl,by omega,b,S,D,HL0.o,HG.o,HC.o,HA.o,rfl,HP.o,HS.o⟩
 case round=>
  obtain⟨L,c',k,A',hlc,hcm',rfl,hk,HD⟩:=hrel;obtain⟨r,S',D',hL,hg',hc',ha',heq,hrd,hs'⟩:=HD.o;have HLr:=ah hL;by_cases h0:L=0
  .have HR0:Hid (Spc.appsL x (cutsB b) S D=(S',D',0)):=by
    unfold Hid;rw[heq,List.eq_nil_of_length_eq_zero (by omega:r.length=0)];rfl
   have HSy:=ah (sync_sp hs' (by have:=hc'.pend;omega));subst h0;clear hL hg' hc' ha' heq hrd hs' HD;go_wp2_with (go_at_call 56;(with_reducible refine HSy.o.mono ?_);rintro e w4 ⟨rfl,hs⟩;have HS4:=ah hs;clear hs);go_ret;unfold fillX;rw[HR0.o,if_pos rfl];exact⟨rfl,HS4.o⟩
  .by_cases h4:480<L
   .have hl0:(0:Int)<L:=by omega
    have hmin:min (L:Int) 480=480:=by omega
    have hmn2:(480:Int)<=L:=by omega
    have hcr:=cuts_step (b:=r) (by omega);have hpl:(r.take 480).length=480:=by rw[List.length_take];omega
    obtain⟨S2,D2,r2,he⟩: ∃ S2 D2 r2,S'.append x (r.take 480) D'=(S2,D2,r2):=⟨_,_,_,rfl⟩;have hAp:=ap_at x A' c' 480 hg' hc' (by omega) ha' hs' (fun W hW=>(hrd W hW).take 480) hpl he;have hst:Spc.appsL x (cutsB b) S D=if r2=0 then Spc.appsL x (cutsB (r.drop 480)) S2 D2 else (S2,D2,r2):=by
     rw[heq,hcr,appsL_cons,he]
    have hnx:=fun h0=>app_next hg' x (r.take 480) hc' ha' (by rw[he];exact h0)
    rw[he] at hnx;have hrd2: ∀ W,Sat w0 F W->Rd W (A'.map (·.add 480)) (r.drop 480):=fun W hW=>by
     have h9:=(hrd W hW).drop (k:=480) (cap:=c') (by omega) (by omega);rw[if_neg (by omega)] at h9;exact h9
    have hdl:L - 480=(r.drop 480).length:=by rw[List.length_drop];omega
    have HAp:=ah hAp;have HSt:=ah hst;have HNx:=ah hnx;have HRd2:=ah hrd2;have HDl:=ah hdl;clear hL hg' hc' ha' heq hrd hs' HD hAp hst hnx hrd2 hdl hcr hpl he HLr;by_cases hr2:r2=0
    .subst hr2;have HN0:=ah (HNx.o rfl);have HS0:Hid (Spc.appsL x (cutsB b) S D=Spc.appsL x (cutsB (r.drop 480)) S2 D2):=by unfold Hid;rw[HSt.o,if_pos rfl]
     clear HNx HSt;go_wp2_with (go_at_call 120;(with_reducible refine HAp.o.mono ?_);rintro e w4 ⟨rfl,hs⟩;have HS4:=ah hs;clear hs);go_roundw
     .exact⟨L - 480,c' - 480,k+480,_,by omega,by omega,rfl,by omega,r.drop 480,S2,D2,HDl.o,HN0.o.1,HN0.o.2.1.mono (by omega),HN0.o.2.2,HS0.o,HRd2.o,HS4.o⟩
     .simp[lenOf];omega
    .have hr3:(r2 !=0)=true:=by rw[bne_iff_ne];exact hr2
     have HE:Hid (Spc.appsL x (cutsB b) S D=(S2,D2,r2)):=by unfold Hid;rw[HSt.o,if_neg hr2]
     go_wp2_with (go_at_call 120;(with_reducible refine HAp.o.mono ?_);rintro e w4 ⟨rfl,hs⟩;have HS4:=ah hs;clear hs);go_ret;unfold fillX;rw[HE.o,if_neg hr2];exact⟨rfl,HS4.o⟩
   .have hl0:(0:Int)<L:=by omega
    have hmin:min (L:Int) 480=L:=by omega
    have hcr:=cuts_last (r:=r) (by omega) (by omega);obtain⟨S2,D2,r2,he⟩: ∃ S2 D2 r2,S'.append x r D'=(S2,D2,r2):=⟨_,_,_,rfl⟩;have hAp:=ap_at x A' c' L hg' hc' (by omega) ha' hs' hrd hL.symm he;have hst:Spc.appsL x (cutsB b) S D=if r2=0 then (S2,D2,0) else (S2,D2,r2):=by
     rw[heq,hcr,appsL_cons,he];rfl
    have hnx:=fun h0=>app_next hg' x r hc' ha' (by rw[he];exact h0)
    rw[he] at hnx;have HAp:=ah hAp;have HSt:=ah hst;have HNx:=ah hnx;clear hL hg' hc' ha' heq hrd hs' HD hAp hst hnx hcr he HLr;by_cases hr2:r2=0
    .subst hr2;have HN0:=ah (HNx.o rfl);have HS0:Hid (Spc.appsL x (cutsB b) S D=(S2,D2,0)):=by unfold Hid;rw[HSt.o,if_pos rfl]
     clear HNx HSt;go_wp2_with (go_at_call 120;(with_reducible refine HAp.o.mono ?_);rintro e w4 ⟨rfl,hs⟩;have HS4:=ah hs;clear hs);go_roundw
     .exact⟨0,c' - L,k+L,(if c'=L then A' else A'.map (·.add L)),by omega,by omega,by simp,by omega,[],S2,D2,rfl,HN0.o.1,HN0.o.2.1.mono (by omega),HN0.o.2.2,HS0.o,fun W _=>Rd.nil _ _,HS4.o⟩
     .simp[lenOf];omega
    .have hr3:(r2 !=0)=true:=by rw[bne_iff_ne];exact hr2
     have HE:Hid (Spc.appsL x (cutsB b) S D=(S2,D2,r2)):=by unfold Hid;rw[HSt.o,if_neg hr2]
     go_wp2_with (go_at_call 120;(with_reducible refine HAp.o.mono ?_);rintro e w4 ⟨rfl,hs⟩;have HS4:=ah hs;clear hs);go_ret;unfold fillX;rw[HE.o,if_neg hr2];exact⟨rfl,HS4.o⟩
end
section
variable {n:Nat} {D D':Dk} {slot turn:Nat} {lo:Bool} {a b:Nat × Nat} {LF:List (List UInt8)} {y:Xf} {sf:Nat->Nat} {lim i:Nat} {E E':List Ent} {bs:List (List Chn)} {safe:Nat} {S:Spc} {cs:List Chn} {x:Bool}
def CrEi (n:Nat) (D:Dk) (lim i:Nat) (E E':List Ent) (bs:List (List Chn)):Prop:= ∀ keep torn bytes,
 ∃ S',openX (D.crash keep torn bytes)=(some S',0)/\ ∃ sf',((∃ x,Dsk n (D.crash keep torn bytes) S' sf' lim i E bs bs.length x)\/Dsk n (D.crash keep torn bytes) S' sf' lim (i+2) E' [] 0 false)
theorem CrOut.ei (h:CrOut n D lim i E bs bs.length) (E':List Ent):CrEi n D lim i E E' bs:=fun keep torn bytes=>by
 obtain⟨S',e,m,m1,m2,sf',x,h1⟩:=h keep torn bytes;have hm:m=bs.length:=by omega
 subst hm;rw[List.take_length] at h1;exact⟨S',e,sf',.inl ⟨x,h1⟩⟩
inductive FilR (n:Nat) (D:Dk) (slot turn:Nat) (lo:Bool) (a b:Nat × Nat) (LF:List (List UInt8)) (u v:Nat) (lim i:Nat) (E:List Ent) (bs:List (List Chn)) (ps:List (List UInt8)) (r:Spc × Dk × Int):Prop where
 | ok (D':Dk) (sf':Nat->Nat) (e:r=(stS slot turn n i lo a b (cutsB (packB E)) LF (some (u,v,ps)),D',0)) (h:Dsx n D' slot turn lo a b LF (some (u,v,ps)) sf' lim i E bs bs.length) (hs:ps.length<=sf' (i+2)) (c: ∀ m,Cnt D m->Cnt D' (m+ps.length)) (r:D'.armed<=D.armed)
 | off (ha:D.armed≠0) (S':Spc) (D':Dk) (e:r=(S',D',21)) (o:D'.off=true) (h:CrOut n D' (lim+1) i E bs bs.length) (c: ∀ m,Cnt D m->Cnt D' (m+ps.length)) (l:D'.cells.length=n)
theorem Dsx.fil {u v:Nat} (h:Dsx n D slot turn lo a b LF (some (u,v,[])) sf lim i E bs bs.length) (hlim:lim+1<=1000000000) {ps:List (List UInt8)} (hp: ∀ p ∈ ps,p.length<=480) (hl:ps.length<=imgN n):
  FilR n D slot turn lo a b LF u v lim i E bs ps (fillX ((i:Int)+2) ps (stS slot turn n i lo a b (cutsB (packB E)) LF (some (u,v,[]))) D):=by
 have hf:=h.fill hlim hp hl;unfold fillX
 cases hf with
 | ok D' sf' e h' c r=>
  rw[e];simp only[if_true];obtain⟨g1,g2⟩:=h'.sync;rw[g1];refine .ok _ _ rfl g2 ?_ (fun m hm=>(c m hm).flush h'.good.fils.off) (by rw[flush_armed h'.good.fils.off];exact r);rw[lenAt_third];exact Nat.le_refl _
 | off ha S' D' e o h' c l=>
  rw[e,if_neg (show ¬ ((21:Int)=0) by decide)];exact .off ha S' D' rfl o h' c l
end
theorem TabG.own {ns:List Nd} {n:Nat} (h:TabG ns n):TabG ns (entsN ns).length:=⟨h.ok,by unfold entsN absL;simp,h.each⟩
theorem TabG.lens {ns:List Nd} {n:Nat} (h:TabG ns n): ∀ x ∈ entsN ns,x.key.length<=200/\x.value.length<=20000:=fun x hx=>by
 unfold entsN absL at hx;rw[List.map_map] at hx;obtain⟨m,hm,rfl⟩:=List.mem_map.1 hx;exact⟨(h.each m hm).1,(h.each m hm).2.1⟩
section
variable {w0 w:World} {F:SP}
theorem dthin_any (b d s:Nat) (v:Sd) (h:Sat w0 (DbP b d s v*F) w) (hL:v.L.length<=90000) (hz: ∀ x ∈ v.L,0<=x.seq/\x.seq<=1000000000) (hf:v.few<=1000000):
  Calls Tryz.prog 113 #[.pointer (some ⟨b,0,none⟩)] w fun x w'=>x = .returned (.tuple #[])/\ ∃ qs,PtsOf v.snaps v.few qs/\Sat w0 (DbP b d s { v with L:=tidyE qs v.L }*F) w':=by
 obtain⟨lg,L,sq,sn,few,nx⟩:=v;obtain⟨tb,hr,mb,ns,⟨ht,he⟩,hs0⟩:=h.db;dsimp only at hL hz hf ht he;have hs:=hs0.of (db_d ..);dsimp only at hs;have hpw:L.Pairwise LTE:=he ▸ entsN_pw ht.ok;have hln:=ht.lens;rw[he] at hln;have c3:w.cell? ⟨b,3,none⟩=some (.pointer (some ⟨tb,0,none⟩)):=hs.cell 3;have hlv:=level_any 0 tb hr ns w (hs.up2.view ht.ok) ht.ok (ht.small (by omega));rw[lev0_all ht,he] at hlv;have HLv:=ah hlv;have HS:=ah hs;have HT:=ah ht;have HE:=ah he;have HPw:=ah hpw;have HLn:=ah hln;have HZ:=ah hz;clear h hs0 hs hpw hln hlv ht he hz;go_enter Tryz.func113, Tryz.ntmps113;go_upto_region 1 with (go_at_call 122;(with_reducible refine HLv.o.mono ?_);rintro e w1 ⟨es,A,c,rfl,hes,hs1⟩;have HS1:=ah (HS.o.join hs1 (owned_star (owned_row _ _ _ _ _) (owned_ownES _)));have HES:=ah hes;clear hes hs1)
 obtain⟨A',c',hsl,hc1,hc2⟩:=(HS1.o.of (star_assoc _ _ _)).row_sl;injection hsl with e1 e2 e3
 subst e1;subst e3;have HEl:Hid (es.length=L.length):=by unfold Hid;rw[<-HES.o,List.length_map]
 have hmx:c<=9223372036854775807:=by unfold maxLen at hc2;omega
 have HP:=ah (points_any (w0:=w0) (w:=w1) (F:=Row 120 4 (.slice A es.length c) es.length (es.flatMap enV)*(OwnE es*(SkipT tb hr ns*F))) b mb few sn _ (HS1.o.of (by rw[star_assoc];show _=Pt b 113 (dbC d s lg tb sq mb nx false)*_;ac_rfl)) rfl hf);have HC:=ah hc1;have HC2:=ah hc2;have HThA:Hid (∀ PA pc (qs:List Int) W,PtsOf sn few qs->Sat w0 (Row 3 1 (.slice PA qs.length pc) qs.length (qs.map (Value.int .i64))*(Pt b 113 (dbC d s lg tb sq mb nx false)*(MapP Tryz.prog 3 mb few (snV sn)*(Row 120 4 (.slice A es.length c) es.length (es.flatMap enV)*(OwnE es*(SkipT tb hr ns*F)))))) W->Calls Tryz.prog 121 #[.slice A es.length c,.bool true,.slice PA qs.length pc] W (ThinT W (thinE true qs L))):=fun PA pc qs W hq hW=>by
  have h9:=thin_any true A c es PA pc qs W (hW.up4.row_rdK) (ownE_r hW.up5) HC.o HC2.o (by have:=HEl.o;omega) (fun e he=>(by have:=HLn.o e.ent (by rw[<-HES.o];exact List.mem_map_of_mem he);have h1:e.key.2.2.length<=200:=this.1;have h2:e.value.2.2.length<=20000:=this.2;omega)) hW.row_rdK (by have:=hq.2;omega) (by rw[HES.o];exact HPw.o);rw[HES.o] at h9;exact h9
 clear c3 HLv hc1 hc2 HS;go_upto_region 2 with (first
  | (go_at_call 148;(with_reducible refine HP.o.mono ?_);rintro e w2 ⟨PA,pc,qs,rfl,hqs,hs2⟩;have HQ:=ah hqs;have HS2:=ah hs2;clear hqs hs2)
  | (go_at_call 121;(with_reducible refine(HThA.o _ _ _ _ HQ.o HS2.o).mono ?_);rintro e w3 ⟨ts,TA,tc,rfl,hts,hs3⟩;have HS3:=ah (HS2.o.join hs3 (owned_star (owned_row _ _ _ _ _) (owned_star (owned_ownES _) owned_emp)));have HTs:=ah hts;clear hts hs3))
 clear HP HThA HS1;have HTl:Hid (ts.length=(thinE true qs L).length):=by unfold Hid;rw[<-HTs.o,List.length_map]
 have htl2:ts.length<=L.length:=by rw[HTl.o];exact(thin_in true qs L).length_le
 have HS4:Hid (Sat w0 (Row 120 4 (.slice TA ts.length tc) ts.length (ts.flatMap enV)*(OwnE ts*(Pt b 113 (dbC d s lg tb sq mb nx false)*(SkipT tb hr ns*(MapP Tryz.prog 3 mb few (snV sn)*F))))) w3):=by
  have h1:=HS3.o.of (show _=(Row 120 4 (.slice TA ts.length tc) ts.length (ts.flatMap enV)*OwnE ts)*_ by rw[star_comm (OwnE ts) Emp,emp_star]);have h2:=h1.of (show _=(Row 3 1 (.slice PA qs.length pc) qs.length (qs.map (Value.int .i64))*(Row 120 4 (.slice A es.length c) es.length (es.flatMap enV)*OwnE es))*(Row 120 4 (.slice TA ts.length tc) ts.length (ts.flatMap enV)*(OwnE ts*(Pt b 113 (dbC d s lg tb sq mb nx false)*(SkipT tb hr ns*(MapP Tryz.prog 3 mb few (snV sn)*F))))) by ac_rfl);exact h2.right
 clear HS3 HS2;by_cases hlt:2*ts.length+16<es.length
 .have HTi:Hid (tidyE qs L=ts.map En.ent):=by
   unfold Hid tidyE;rw[if_pos (by have:=HTl.o;have:=HEl.o;omega),HTs.o]
  have h1:(2*(ts.length:Int)+16)<es.length:=by omega
  clear hlt;go_upto_region 4 with (go_at_call 58;(with_reducible refine(mnew_any w0 _ _ HS4.o).mono ?_);rintro e w4 ⟨tb2,hr2,rfl,hs4⟩;have HS5:=ah hs4;have f3:=hs4.up4.frozen 3;have c3:=hs4.up4.cell 3;clear hs4)
  have hs6:=HS5.o.up4.set 3 (.pointer (some ⟨tb2,0,none⟩));obtain⟨W6,hW6⟩: ∃ W6,W6=w4.setCell ⟨b,3,none⟩ (.pointer (some ⟨tb2,0,none⟩)):=⟨_,rfl⟩;rw[<-hW6] at hs6;rw[<-hW6];have HS6:Hid (Sat w0 (SkipT tb2 hr2 []*(Pt b 113 (dbC d s lg tb2 sq mb nx false)*(Row 120 4 (.slice TA ts.length tc) ts.length (ts.flatMap enV)*(OwnE ts*(MapP Tryz.prog 3 mb few (snV sn)*F))))) W6):=by
   have h2:=hs6.of (show _=SkipT tb hr ns*(SkipT tb2 hr2 []*(Pt b 113 (dbC d s lg tb2 sq mb nx false)*(Row 120 4 (.slice TA ts.length tc) ts.length (ts.flatMap enV)*(OwnE ts*(MapP Tryz.prog 3 mb few (snV sn)*F))))) by
    show Pt b 113 (dbC d s lg tb2 sq mb nx false)*(SkipT tb2 hr2 []*_)=_
    ac_rfl)
   exact h2.right
  clear hW6 hs6 c3 f3 HS5 HS4;have HTsr:Hid ((ts.map En.ent).Pairwise LTE):=by unfold Hid;rw[HTs.o];exact thin_sorted HPw.o
  have HTin:Hid (∀ x ∈ ts.map En.ent,x ∈ L):=fun x hx=>by rw[HTs.o] at hx;exact(thin_in true qs L).mem hx
  go_wp2_with fail;go_loopw [32] (fun iv wr=> ∃ (i:Nat) (ms:List Nd),i<=ts.length/\iv = .int .i64 (i:Int)/\Hid (TabG ms i/\entsN ms=(ts.map En.ent).take i/\Sat w0 (SkipT tb2 hr2 ms*(Pt b 113 (dbC d s lg tb2 sq mb nx false)*(Row 120 4 (.slice TA ts.length tc) ts.length (ts.flatMap enV)*(OwnE ts*(MapP Tryz.prog 3 mb few (snV sn)*F))))) wr)) (fun iv _=>ts.length - (intOf iv).toNat)
  case atStart=>exact⟨0,[],by omega,rfl,tabG_nil 0,rfl,HS6.o⟩
  case round=>
   obtain⟨i,ms,hi,rfl,HD⟩:=hrel;by_cases hlt:i<ts.length
   .obtain⟨lb,lo,hA,hq⟩:=ents_at HD.o.2.2.up3.row_rdK (by omega);subst hA;obtain⟨y0,y1,y2,y3⟩:=hq i hlt;have HRi:=ah (ownE_r HD.o.2.2.up4 _ (List.getElem_mem hlt));have HLi:=ah (HLn.o _ (HTin.o _ (List.mem_map_of_mem (List.getElem_mem hlt))));have HZi:=ah (HZ.o _ (HTin.o _ (List.mem_map_of_mem (List.getElem_mem hlt))));have HTk:Hid ((ts.map En.ent).take (i+1)=(ts.map En.ent).take i++[ts[i].ent]):=by
     unfold Hid;rw[List.take_add_one,List.getElem?_eq_getElem (by rw[List.length_map];exact hlt),List.getElem_map];rfl
    have HNew:Hid (∀ x ∈ entsN ms,LTE x ts[i].ent):=fun x hx=>by
     rw[HD.o.2.1] at hx;have h2:=HTsr.o;rw[<-List.take_append_drop (i+1) (ts.map En.ent),HTk.o] at h2;have h3:=(List.pairwise_append.1 h2).1;exact(List.pairwise_append.1 h3).2.2 x hx _ (List.mem_singleton_self _)
    have hii:(i:Int)<ts.length:=by omega
    clear hq;generalize ts[i]=x at*
    obtain⟨⟨kA,kc,kl⟩,⟨vA,vc,vl⟩,eq,dd⟩:=x;replace y0:_=some (Value.slice kA kl.length kc):=y0;replace y1:_=some (Value.slice vA vl.length vc):=y1;replace y2:_=some (Value.int .i64 eq):=y2;replace y3:_=some (Value.bool dd):=y3;replace HZi:Hid (0<=eq/\eq<=1000000000):=HZi;go_upto_region 7 with fail;have hs7:=HD.o.2.2.allocPt 120 #[.slice kA kl.length kc,.slice vA vl.length vc,.int .i64 eq,.bool dd];obtain⟨W7,hW7⟩: ∃ W7,W7=wr.alloc (.cells #[.slice kA kl.length kc,.slice vA vl.length vc,.int .i64 eq,.bool dd] 120):=⟨_,rfl⟩;rw[<-hW7] at hs7;rw[<-hW7];obtain⟨bx,hbx⟩: ∃ bx,bx=wr.heap.size:=⟨_,rfl⟩;rw[<-hbx] at hs7;rw[<-hbx];have HR7:Hid (Rd W7 kA kl/\Rd W7 vA vl):=by rw[hW7];exact⟨RdV.alloc HRi.o.1 _,RdV.alloc HRi.o.2 _⟩
    clear hW7 hbx y0 y1 y2 y3;have c3:=hs7.up3.cell 3;have x0:=hs7.cell 0;have x1:=hs7.cell 1;have x2:=hs7.cell 2;have x3:=hs7.cell 3;have HSr:=ah hs7;clear hs7;have HPu:Hid (∀ W H,Chg No W7 W->Calls Tryz.prog 62 #[.pointer (some ⟨tb2,0,none⟩),.agg #[.slice kA kl.length kc,.slice vA vl.length vc,.int .i64 eq,.bool dd],.int .i64 H] W fun x w'=> ∃ ns',x = .returned (.int .i64 0)/\TabG ns' (i+1)/\entsN ns'=(ts.map En.ent).take (i+1)/\Sat w0 (SkipT tb2 hr2 ns'*(Pt bx 120 #[.slice kA kl.length kc,.slice vA vl.length vc,.int .i64 eq,.bool dd]*(Pt b 113 (dbC d s lg tb2 sq mb nx false)*(Row 120 4 (.slice (some ⟨lb,lo,none⟩) ts.length tc) ts.length (ts.flatMap enV)*(OwnE ts*(MapP Tryz.prog 3 mb few (snV sn)*F)))))) w'):=fun W H hW=>by
     refine(putN_any tb2 hr2 ms i H ⟨(kA,kc,kl),(vA,vc,vl),eq,dd⟩ w0 W _ (HSr.o.new hW).up2 HD.o.1 (by omega) ⟨HR7.o.1.new hW,HR7.o.2.new hW⟩ HLi.o.1 HLi.o.2 (by show eq<=topSeq;unfold topSeq;have:=HZi.o;omega) (fun x hx hs=>same1_not hs (HNew.o x hx))).mono ?_;rintro x w' ⟨ns',rfl,k1,k2,k3⟩;exact⟨ns',rfl,k1,by rw[k2,insE_last HNew.o,HTk.o,HD.o.2.1],k3⟩
    have HH:=ah (fun W=>height_any eq HZi.o W);have HDrew:Hid (Chg No W7 W7.drew):=(Chg.refl No W7).drew;refine wp_region_held_drew (S:=fun w'=>w'.cell? ⟨b,3,none⟩=some (.pointer (some ⟨tb2,0,none⟩))/\w'.cell? ⟨bx,0,none⟩=some (.slice kA kl.length kc)/\w'.cell? ⟨bx,1,none⟩=some (.slice vA vl.length vc)/\w'.cell? ⟨bx,2,none⟩=some (.int .i64 eq)/\w'.cell? ⟨bx,3,none⟩=some (.bool dd)) (by kernel_rfl) ⟨(by exact c3),x0,x1,x2,x3⟩ ?_;intro hS0;refine rtk 0 ?_;refine rtk 1 ?_;refine rtk 2 ?_;refine rtk 3 ?_;refine rtk 4 ?_;refine rtk 5 ?_;refine rtk 6 ?_;refine rck 7 fun K hK=>?_
    go_simp;go_at_call 63;(with_reducible refine(HH.o _).mono ?_);rintro e wx ⟨⟨hh,rfl,hh1,hh2⟩,rfl⟩
    refine hK.out _ _ ⟨(by exact c3),x0,x1,x2,x3⟩ (fun hS0=>?_);clear hK K;refine rck 8 fun K hK=>?_
    go_simp;go_at_call 62;(with_reducible refine(HPu.o _ hh HDrew.o).mono ?_);rintro e w8 ⟨ns2,rfl,n1,n2,hs8⟩;have HN1:=ah n1;have HN2:=ah n2;have HS8:=ah hs8;clear n1 n2 hs8
    refine hK.out _ _ ⟨HS8.o.up3.cell 3,HS8.o.up2.cell 0,HS8.o.up2.cell 1,HS8.o.up2.cell 2,HS8.o.up2.cell 3⟩ (fun hS0=>?_);clear hK K;refine wpAnyH_done (by kernel_rfl) ?_ _;go_wp2_with fail;go_roundw
    .exact⟨i+1,ns2,by omega,by push_cast;rfl,HN1.o,HN2.o,HS8.o.up2.right⟩
    .simp[intOf];omega
   .have hie:i=ts.length:=by omega
    subst hie;go_wp2_with fail;go_end0
    refine⟨rfl,qs,HQ.o,?_⟩;have hend:=HD.o.2.1;rw[List.take_of_length_le (by rw[List.length_map];omega)] at hend;refine Sat.dbI (tb:=tb2) (hr:=hr2) (mb:=mb) (ns:=ms) (v:=⟨lg,tidyE qs L,sq,sn,few,nx⟩) ?_ ?_ ?_
    .show TabG ms (tidyE qs L).length;rw[HTi.o,List.length_map];exact HD.o.1
    .show entsN ms=tidyE qs L;rw[HTi.o,hend]
    .rw[db_d];have h2:=HD.o.2.2;exact(h2.of (show _=(Row 120 4 (.slice TA ts.length tc) ts.length (ts.flatMap enV)*OwnE ts)*(Pt b 113 (dbC d s lg tb2 sq mb nx false)*(SkipT tb2 hr2 ms*(MapP Tryz.prog 3 mb few (snV sn)*F))) by ac_rfl)).right
 .have HTi:Hid (tidyE qs L=L):=by
   unfold Hid tidyE;rw[if_neg (by have:=HTl.o;have:=HEl.o;omega)]
  have h1:¬ (2*(ts.length:Int)+16)<es.length:=by omega
  clear hlt;go_wp2_with fail;go_end0
  refine⟨rfl,qs,HQ.o,?_⟩;refine Sat.dbI (tb:=tb) (hr:=hr) (mb:=mb) (ns:=ns) (v:=⟨lg,tidyE qs L,sq,sn,few,nx⟩) ?_ ?_ ?_
  .show TabG ns (tidyE qs L).length;rw[HTi.o];exact HT.o
  .show entsN ns=tidyE qs L;rw[HTi.o,HE.o]
  .rw[db_d];exact HS4.o.right.right
theorem ddone_any (b d s:Nat) (v:Sd) (A:Option Addr) (c:Nat) (ps:List Pu) (h:Sat w0 (DbP b d s v*F) w) (hb: ∀ W,Sat w0 F W->RdV W A (ps.flatMap puC)/\PusR W ps) (hok: ∀ p ∈ ps,ChgOk p.chn) (hn:ps.length<=10000)
  (hL:v.L.length<=80000) (hz: ∀ x ∈ v.L,0<=x.seq/\x.seq<=v.seq) (hq:v.seq+1<=1000000000) (hf:v.few<=1000000):
  Calls Tryz.prog 65 #[.pointer (some ⟨b,0,none⟩),.slice A ps.length c] w fun x w'=>x = .returned (.tuple #[])/\ ∃ qs,PtsOf v.snaps v.few qs/\Sat w0 (DbP b d s { v with L:=tidyE qs (doneE v.seq (ps.map Pu.chn) v.L),seq:=v.seq+1 }*F) w':=by
 obtain⟨lg,L,sq,sn,few,nx⟩:=v;obtain⟨tb,hr,mb,ns,⟨ht,he⟩,hs0⟩:=h.db;dsimp only at hL hz hq hf ht he;have hs:=hs0.of (db_d ..);dsimp only at hs;have c4:w.cell? ⟨b,4,none⟩=some (.int .i64 (sq:Int)):=hs.cell 4;have f4:=hs.frozen 4;have hs1:=hs.set 4 (.int .i64 ((sq:Int)+1));have e1:(dbC d s lg tb sq mb nx false).setIfInBounds 4 (.int .i64 ((sq:Int)+1))=dbC d s lg tb ((sq:Int)+1) mb nx false:=rfl;rw[e1] at hs1;obtain⟨W1,hW1⟩: ∃ W1,W1=w.setCell ⟨b,4,none⟩ (.int .i64 ((sq:Int)+1)):=⟨_,rfl⟩;rw[<-hW1] at hs1;have HW:=ah hW1;have HS1:=ah hs1;have HT:=ah ht;have HE:=ah he;have HZ:=ah hz;have HOk:=ah hok;have HLt:Hid (∀ x ∈ L,x.seq<((sq+1:Nat):Int)):=fun x hx=>by have:=(hz x hx).2;omega
 have HB:Hid (∀ W,Sat w0 F W->PusR W ps):=fun W hW=>(hb W hW).2
 have HLa:=ah (last_any A c ps W1 (hb W1 hs1.right.right.right).1 (hb W1 hs1.right.right.right).2 (fun p hp=>(hok p hp).key.2) (by omega));clear h hs0 hs hs1 hb ht he hz hok hW1 e1;go_enter Tryz.func65, Tryz.ntmps65;go_upto_region 1 with fail;rw[<-HW.o];clear c4 f4 HW;go_wp2_with (go_at_call 112;(with_reducible refine HLa.o.mono ?_);rintro e w2 ⟨QA,qc,qs,hin,hqs,rfl,hs2⟩;have HS2:=ah (HS1.o.join hs2 (owned_star (owned_row _ _ _ _ _) owned_emp));have HIn:=ah hin;have HQs:=ah hqs;clear hin hqs hs2);clear HLa HS1;have HS3:Hid (Sat w0 (SkipT tb hr ns*(Pt b 113 (dbC d s lg tb ((sq:Int)+1) mb nx false)*(Row 43 3 (.slice QA qs.length qc) qs.length (qs.flatMap puC)*(MapP Tryz.prog 3 mb few (snV sn)*F)))) w2):=HS2.o.of (by rw[star_comm _ Emp,emp_star];ac_rfl);have HQl:Hid (qs.length<=ps.length):=by
  have h1:=congrArg List.length HQs.o;have h2:=(lastB_sub (ps.map Pu.chn)).length_le;rw[List.length_map] at h1 h2;unfold Hid;omega
 have hql:qs.length<=10000:=by have:=HQl.o;omega
 clear HS2;go_loopw [16] (fun iv wr=> ∃ (i:Nat) (ms:List Nd),i<=qs.length/\iv = .int .i64 (i:Int)/\Hid (TabG ms (L.length+i)/\entsN ms=insL ((sq+1:Nat):Int) ((qs.map Pu.chn).take i) L/\Sat w0 (SkipT tb hr ms*(Pt b 113 (dbC d s lg tb ((sq:Int)+1) mb nx false)*(Row 43 3 (.slice QA qs.length qc) qs.length (qs.flatMap puC)*(MapP Tryz.prog 3 mb few (snV sn)*F)))) wr)) (fun iv _=>qs.length - (intOf iv).toNat)
 case atStart=>exact⟨0,ns,by omega,rfl,HT.o,HE.o,HS3.o⟩
 case round=>
  obtain⟨i,ms,hi,rfl,HD⟩:=hrel;by_cases hlt:i<qs.length
  .obtain⟨lb,lo,hA,hq⟩:=pus_at HD.o.2.2.up3.row_rdK (by omega);subst hA;obtain⟨y0,y1,y2⟩:=hq i hlt;have HRi:=ah (HB.o wr HD.o.2.2.right.right.right.right _ (HIn.o _ (List.getElem_mem hlt)));have HOi:=ah (HOk.o _ (HIn.o _ (List.getElem_mem hlt)));have HTk:Hid ((qs.map Pu.chn).take (i+1)=(qs.map Pu.chn).take i++[qs[i].chn]):=by
    unfold Hid;rw[List.take_add_one,List.getElem?_eq_getElem (by rw[List.length_map];exact hlt),List.getElem_map];rfl
   have HNew:Hid (∀ x ∈ entsN ms,¬ same1 x (entC ((sq+1:Nat):Int) qs[i].chn)):=fun x hx hsm=>by
    rw[HD.o.2.1] at hx;rcases insL_mem.1 hx with h1 | ⟨p,hp,h1⟩
    .have h2:=HLt.o x h1;have h3:x.seq=((sq+1:Nat):Int):=hsm.2;omega
    .have h2:=lastB_once (ps.map Pu.chn);rw[<-HQs.o, <-List.take_append_drop (i+1) (qs.map Pu.chn),HTk.o] at h2;have h3:=(List.pairwise_append.1 (List.pairwise_append.1 h2).1).2.2 p hp _ (List.mem_singleton_self _);have h4:x.key=qs[i].chn.key:=hsm.1;rw[h1] at h4;exact h3 h4
   have hii:(i:Int)<qs.length:=by omega
   clear hq;generalize qs[i]=x at*
   obtain⟨⟨kA,kc,kl⟩,⟨vA,vc,vl⟩,dd⟩:=x;replace y0:_=some (Value.slice kA kl.length kc):=y0;replace y1:_=some (Value.slice vA vl.length vc):=y1;replace y2:_=some (Value.bool dd):=y2;go_upto_region 4 with fail;have hs7:=HD.o.2.2.allocPt 43 #[.slice kA kl.length kc,.slice vA vl.length vc,.bool dd];obtain⟨W7,hW7⟩: ∃ W7,W7=wr.alloc (.cells #[.slice kA kl.length kc,.slice vA vl.length vc,.bool dd] 43):=⟨_,rfl⟩;rw[<-hW7] at hs7;rw[<-hW7];obtain⟨bx,hbx⟩: ∃ bx,bx=wr.heap.size:=⟨_,rfl⟩;rw[<-hbx] at hs7;rw[<-hbx];have HR7:Hid (Rd W7 kA kl/\Rd W7 vA vl):=by rw[hW7];exact⟨RdV.alloc HRi.o.1 _,RdV.alloc HRi.o.2 _⟩
   clear hW7 hbx y0 y1 y2;have c3:=hs7.up3.cell 3;have c4:=hs7.up3.cell 4;have x0:=hs7.cell 0;have x1:=hs7.cell 1;have x2:=hs7.cell 2;have HSr:=ah hs7;clear hs7;have HPu:Hid (∀ W H,Chg No W7 W->Calls Tryz.prog 62 #[.pointer (some ⟨tb,0,none⟩),.agg #[.slice kA kl.length kc,.slice vA vl.length vc,.int .i64 ((sq:Int)+1),.bool dd],.int .i64 H] W fun x w'=> ∃ ns',x = .returned (.int .i64 0)/\TabG ns' (L.length+(i+1))/\entsN ns'=insL ((sq+1:Nat):Int) ((qs.map Pu.chn).take (i+1)) L/\Sat w0 (SkipT tb hr ns'*(Pt bx 43 #[.slice kA kl.length kc,.slice vA vl.length vc,.bool dd]*(Pt b 113 (dbC d s lg tb ((sq:Int)+1) mb nx false)*(Row 43 3 (.slice (some ⟨lb,lo,none⟩) qs.length qc) qs.length (qs.flatMap puC)*(MapP Tryz.prog 3 mb few (snV sn)*F))))) w'):=fun W H hW=>by
    have hk:=HOi.o.key.2;have hv:=HOi.o.val;replace hk:kl.length<=128:=hk;replace hv:vl.length<=16384:=hv;have hnew:=HNew.o;rw[show ((sq+1:Nat):Int)=(sq:Int)+1 by omega] at hnew;refine(putN_any tb hr ms (L.length+i) H ⟨(kA,kc,kl),(vA,vc,vl),(sq:Int)+1,dd⟩ w0 W _ (HSr.o.new hW).up2 HD.o.1 (by omega) ⟨HR7.o.1.new hW,HR7.o.2.new hW⟩ (by show kl.length<=200;omega) (by show vl.length<=20000;omega) (by show (sq:Int)+1<=topSeq;unfold topSeq;omega) hnew).mono ?_;rintro x w' ⟨ns',rfl,k1,k2,k3⟩;refine⟨ns',rfl,k1,?_,k3⟩;rw[k2,HTk.o,HD.o.2.1];unfold insL;rw[List.foldl_append];show _=insE _ _;rw[show ((sq+1:Nat):Int)=(sq:Int)+1 by omega];rfl
   have HH:=ah (fun W=>height_any ((sq:Int)+1) (by omega) W);have HDrew:Hid (Chg No W7 W7.drew):=(Chg.refl No W7).drew;refine wp_region_held_drew (S:=fun w'=>w'.cell? ⟨b,3,none⟩=some (.pointer (some ⟨tb,0,none⟩))/\w'.cell? ⟨b,4,none⟩=some (.int .i64 ((sq:Int)+1))/\w'.cell? ⟨bx,0,none⟩=some (.slice kA kl.length kc)/\w'.cell? ⟨bx,1,none⟩=some (.slice vA vl.length vc)/\w'.cell? ⟨bx,2,none⟩=some (.bool dd)) (by kernel_rfl) ⟨(by exact c3),(by exact c4),x0,x1,x2⟩ ?_;intro hS0;refine rtk 0 ?_;refine rtk 1 ?_;refine rtk 2 ?_;refine rtk 3 ?_;refine rtk 4 ?_;refine rtk 5 ?_;refine rtk 6 ?_;refine rtk 7 ?_;refine rtk 8 ?_;refine rtk 9 ?_;refine rtk 10 ?_;refine rtk 11 ?_;refine rtk 12 ?_;refine rtk 13 ?_;refine rtk 14 ?_;refine rtk 15 ?_;refine rtk 16 ?_;refine rtk 17 ?_;refine rtk 18 ?_;refine rck 19 fun K hK=>?_
   go_simp;go_at_call 63;(with_reducible refine(HH.o _).mono ?_);rintro e wx ⟨⟨hh,rfl,hh1,hh2⟩,rfl⟩
   refine hK.out _ _ ⟨(by exact c3),(by exact c4),x0,x1,x2⟩ (fun hS0=>?_);clear hK K;refine rck 20 fun K hK=>?_
   go_simp;go_at_call 62;(with_reducible refine(HPu.o _ hh HDrew.o).mono ?_);rintro e w8 ⟨ns2,rfl,n1,n2,hs8⟩;have HN1:=ah n1;have HN2:=ah n2;have HS8:=ah hs8;clear n1 n2 hs8
   refine hK.out _ _ ⟨HS8.o.up3.cell 3,HS8.o.up3.cell 4,HS8.o.up2.cell 0,HS8.o.up2.cell 1,HS8.o.up2.cell 2⟩ (fun hS0=>?_);clear hK K;refine wpAnyH_done (by kernel_rfl) ?_ _;go_wp2_with fail;go_roundw
   .exact⟨i+1,ns2,by omega,by push_cast;rfl,HN1.o,HN2.o,HS8.o.up2.right⟩
   .simp[intOf];omega
  .have hie:i=qs.length:=by omega
   subst hie;have hend:=HD.o.2.1;rw[List.take_of_length_le (by rw[List.length_map];omega),HQs.o] at hend;have HDn:Hid (entsN ms=doneE sq (ps.map Pu.chn) L):=hend;have HTo:Hid (TabG ms (doneE sq (ps.map Pu.chn) L).length):=by have:=HD.o.1.own;rw[HDn.o] at this;exact this
   have HS9:Hid (Sat w0 (DbP b d s ⟨lg,doneE sq (ps.map Pu.chn) L,sq+1,sn,few,nx⟩*F) wr):=by
    refine Sat.dbI (tb:=tb) (hr:=hr) (mb:=mb) (ns:=ms) HTo.o HDn.o ?_;rw[db_d];dsimp only;rw[show ((sq+1:Nat):Int)=(sq:Int)+1 by omega];exact(HD.o.2.2.of (show _=Row 43 3 (.slice QA qs.length qc) qs.length (qs.flatMap puC)*(Pt b 113 (dbC d s lg tb ((sq:Int)+1) mb nx false)*(SkipT tb hr ms*(MapP Tryz.prog 3 mb few (snV sn)*F))) by ac_rfl)).right
   have HTh:=ah (dthin_any b d s ⟨lg,doneE sq (ps.map Pu.chn) L,sq+1,sn,few,nx⟩ HS9.o (by
    show (doneE sq (ps.map Pu.chn) L).length<=90000;unfold doneE;rw[insL_len];have h2:=(lastB_sub (ps.map Pu.chn)).length_le;rw[List.length_map] at h2;omega) (fun x hx=>by
    rcases insL_mem.1 hx with h1 | ⟨p,hp,rfl⟩
    .have:=HZ.o x h1;omega
    .show 0<=((sq+1:Nat):Int)/\((sq+1:Nat):Int)<=1000000000;omega) hf)
   go_wp2_with (go_at_call 113;(with_reducible refine HTh.o.mono ?_);rintro e w4 ⟨rfl,qq,hq1,hs4⟩;have HQ4:=ah hq1;have HS4:=ah hs4;clear hq1 hs4);go_end0
   exact⟨rfl,qq,HQ4.o,HS4.o⟩
end
end Go.Proofs.YtmbaiglpgaoogaaGreat
