/- Joined, as they were built one by one: Skip3 Skip4 Skip5 Skip6 Skip7 NokPut MemGet TabFns Tab1 TabRd. -/
import Derived.Test.YtmbaiglpgaoogaaGreatW02
import Derived.Test.YtmbaiglpgaoogaaGreatW04
import Derived.Test.YtmbaiglpgaoogaaGreatW05
set_option maxHeartbeats 16000000
set_option linter.unusedVariables false
set_option maxRecDepth 100000
namespace Go.Proofs.YtmbaiglpgaoogaaGreat
open Go.RowKit Z
section
variable {w0 w w':World} {F:SP}
theorem nz (S:Option Addr) (n:Nat) (l:List UInt8) (h:Sat w0 F w) (hr:Rd w S l) (hl:l.length<=140737488355328):
 Calls Tryz.prog 104 #[.slice S l.length n] w fun e w'=> ∃ A c,e = .returned (.slice A l.length c)/\ao No w w'/\Sat w0 (Row 5 1 (.slice A l.length c) l.length (l.map bv)*F) w':=by
 refine(ez S n l w hr hl).mono ?_;rintro e w' ⟨v,rfl,h1,h2,h3⟩;have h4:=h.dP h3 h1;obtain⟨A,c,rfl,_⟩:=h4.bm;exact⟨A,c,rfl,h3,h4⟩
end
def og (A:SP):Prop:= ∀ h,A h-> ∀ k x,h k=some x->x.1=false
theorem df:og bF:=fun h e k x hx=>by unfold bF at e;rw[e] at hx;cases hx
theorem Eh (b:Nat) (o:Obj):og (Ow b o):=fun h e k x hx=>by
 unfold Ow at e;rw[e] at hx;unfold eL at hx;split at hx
 .injection hx with hx;subst hx;rfl
 .cases hx
theorem bH (e:TypeId) (size:Nat) (v:Value) (n:Nat) (xs:List Value):og (Row e size v n xs):=fun h he k x hx=>by
 rcases he.2 with ⟨_,_,h1⟩ | ⟨g,cap,cur,_,_,_,_,_,h1⟩
 .exact df h h1 k x hx
 .exact Eh _ _ h h1 k x hx
theorem ba {A B:SP} (ha:og A) (hb:og B):og (A*B):=fun h ⟨a,b,h1,h2,h3,h4⟩ k x hx=>by
 rw[h2] at hx;unfold Hp.un jn at hx
 cases hk:a k with
 | none=>rw[hk] at hx;exact hb b h4 k x hx
 | some y=>rw[hk] at hx;injection hx with hx;subst hx;exact ha a h3 k _ hk
theorem Sat.join {w0 w w':World} {A F:SP} (h:Sat w0 F w) (k:Sat w A w') (hA:og A):Sat w0 (A*F) w':=by
 obtain⟨x,h1,h2⟩:=h.hp;obtain⟨y,k1,k2⟩:=k.hp;have hs:=h.size;have hd: ∀ b u v,x b=some u->y b=some v->False:=fun b u v hu hv=>by
  have e1:=lt_of_block (h1 b u hu).1;have e2:=(k1 b v hv).2 (hA y k2 b v hv);omega
 refine⟨h.aL.tr k.aL,y.un x,fun b u hu=>?_,y,x,fun b=>?_,rfl,k2,h2⟩
 .unfold Hp.un jn at hu
  cases hk:y b with
  | none=>
   rw[hk] at hu;have:=h1 b u hu;exact⟨by rw[k.aL.block b (lt_of_block this.1) id];exact this.1,this.2⟩
  | some v=>
   rw[hk] at hu;injection hu with hu;subst hu
   have:=k1 b v hk;exact⟨this.1,fun e=>Nat.le_trans hs (this.2 e)⟩
 .cases hy:y b with
  | none=>exact .inl rfl
  | some v=>
   cases hx:x b with
   | none=>exact .inr (.inl rfl)
   | some u=>exact(hd b u v hx hy).elim
def jk (w0:World) (F:SP) (e:En) (x:Ending) (w':World):Prop:= ∃ A c B d,x = .returned (iN ⟨(A,c,e.key.2.2),(B,d,e.value.2.2),e.seq,e.dead⟩)/\
 Sat w0 (Row 5 1 (.slice A e.key.2.2.length c) e.key.2.2.length (e.key.2.2.map bv)*(Row 5 1 (.slice B e.value.2.2.length d) e.value.2.2.length (e.value.2.2.map bv)*F)) w'
theorem Hr (e:En) (w:World) (hr:oD w e) (hk:e.key.2.2.length<=140737488355328) (hv:e.value.2.2.length<=140737488355328):
 Calls Tryz.prog 110 #[iN e] w (jk w bF e):=by
 have h:=Sat.start w;obtain⟨⟨kA,kc,k⟩,⟨vA,vc,v⟩,seq,dead⟩:=e;have HRk:Hid (Rd w kA k):=hr.1;have HRv:Hid (Rd w vA v):=hr.2;have hk':k.length<=140737488355328:=hk;have hv':v.length<=140737488355328:=hv;have h1:=h.bO (b:=w.heap.size) 120 #[.slice kA k.length kc,.slice vA v.length vc,.int .i64 seq,.bool dead] rfl;have h2:=h1.bO (b:=w.heap.size+1) 120 #[.slice none 0 0,.slice none 0 0,.int .i64 0,.bool false] (by simp);have hc2:ao No w _:=((ao.refl No w).alloc (.cells #[.slice kA k.length kc,.slice vA v.length vc,.int .i64 seq,.bool dead] 120)).alloc (.cells #[.slice none 0 0,.slice none 0 0,.int .i64 0,.bool false] 120);clear hr h h1;unfold iN;go_enter Tryz.func110, Tryz.ntmps110;go_wp2_with fail;revert h2 hc2;generalize (w.alloc _).alloc _=W;intro h2 hc2;generalize w.heap.size+1=B at*
 generalize w.heap.size=E at*
 have c0:=h2.ay.cell 0;have c1:=h2.ay.cell 1;have c2:=h2.ay.cell 2;have c3:=h2.ay.cell 3;have HS0:=ah h2;have HC0:=ah hc2;clear h2 hc2;go_region_law (first
  | (go_simp;go_at_call 104;(with_reducible refine(nz kA kc k HS0.o.drew (HRk.o.new HC0.o.drew) hk').mono ?_);rintro x w1 ⟨A,c,rfl,k1,hs1⟩;have HS1:=ah hs1;have HC1:=ah (HC0.o.drew.tr k1);have c0:=hs1.bp.cell 0;have c1:=hs1.bp.cell 1;have c2:=hs1.bp.cell 2;have c3:=hs1.bp.cell 3;clear hs1 k1)
  | (go_simp;go_at_call 104;(with_reducible refine(nz vA vc v HS1.o (HRv.o.new HC1.o) hv').mono ?_);rintro x w2 ⟨B2,d,rfl,k2,hs2⟩;have HS2:=ah hs2;have HC2:=ah (HC1.o.tr k2);have c0:=hs2.bL.cell 0;have c1:=hs2.bL.cell 1;have c2:=hs2.bL.cell 2;have c3:=hs2.bL.cell 3;have f0:=hs2.bL.frozen 0;have f1:=hs2.bL.frozen 1;clear hs2 k2))
 all_goals
  have h5:=(HS2.o.bL.set 0 (.slice A k.length c)).set 1 (.slice B2 v.length d);clear f0 f1 c0 c1 c2 c3;revert h5;generalize World.setCell _ _ _=w3;intro h5;have c0:=h5.cell 0;have c1:=h5.cell 1;have c2:=h5.cell 2;have c3:=h5.cell 3;have d0:=h5.bL.cell 0;have d1:=h5.bL.cell 1;have d2:=h5.bL.cell 2;have d3:=h5.bL.cell 3;have f0:=h5.bL.frozen 0;have f1:=h5.bL.frozen 1;have f2:=h5.bL.frozen 2;have f3:=h5.bL.frozen 3;have h6:=(((h5.bL.set 0 (.slice A k.length c)).set 1 (.slice B2 v.length d)).set 2 (.int .i64 seq)).set 3 (.bool dead);go_wp2_with fail;revert h6;generalize World.setCell _ _ _=w4;intro h6;refine bodyPost_ret (results_cell_row (p:=2) (by kernel_rfl) _ _ B 120 _ (0,0) _ rfl h6.at Tryz.underlying120 rfl (by kernel_rfl)) rfl ?_;exact⟨A,c,B2,d,rfl,h6.right.right.ay⟩
theorem jF (e:En) (w0 w:World) (F:SP) (h:Sat w0 F w) (hr:oD w e) (hk:e.key.2.2.length<=140737488355328) (hv:e.value.2.2.length<=140737488355328):
 Calls Tryz.prog 110 #[iN e] w fun x w'=>jk w0 F e x w'/\ao No w w':=by
 refine(Hr e w hr hk hv).mono ?_;rintro x w' ⟨A,c,B,d,rfl,hs⟩;exact⟨⟨A,c,B,d,rfl,(h.join hs (ba (bH _ _ _ _ _) (ba (bH _ _ _ _ _) df))).of (by rw[aB,aB,bf])⟩,hs.aL⟩
theorem xB {f g:Nat->Option Nat} {h v i:Nat} {u:Value} (hi:i<v) (hfg: ∀ j,j<h->j≠i->j<v->f j=g j) (hu:dM (g i)=u):(cH f h v).setIfInBounds i u=cH g h v:=by
 apply Array.ext';apply List.ext_getElem?;intro j;unfold cH;simp only[List.setIfInBounds_toArray,List.getElem?_set,List.getElem?_map,List.length_map,List.length_range];by_cases hj:j<h
 .rw[List.getElem?_range hj];by_cases e:i=j
  .subst e;simp[hj,hi,hu]
  .by_cases hv:j<v
   .simp[e,hv,hfg j hj (fun q=>e q.symm) hv]
   .simp[e,hv]
 .simp[hj];omega
theorem Bv {f:Nat->Option Nat} {h i:Nat}:(cH f h i).setIfInBounds i (dM (f i))=cH f h (i+1):=by
 apply Array.ext';apply List.ext_getElem?;intro j;unfold cH;simp only[List.setIfInBounds_toArray,List.getElem?_set,List.getElem?_map,List.length_map,List.length_range];by_cases hj:j<h
 .rw[List.getElem?_range hj];by_cases e:i=j
  .subst e;simp[hj]
  .have:(j<i+1)=(j<i):=by apply propext;omega
   simp[e,this]
 .simp[hj];omega
theorem jB (i:Nat): ∀ (p:List Nd) (b:Nat),((∀ n ∈ p,n.v<=i)/\au b p i=b)\/ ∃ p1 m p2,p=p1++m::p2/\i<m.v/\(∀ n ∈ p2,n.v<=i)/\au b p i=m.a
 | [],b=> .inl ⟨by simp,rfl⟩
 | n::p,b=>by
  by_cases h:i<n.v
  .have e:au b (n::p) i=au n.a p i:=by show (if i<n.v then _ else _)=_;rw[if_pos h]
   rcases jB i p n.a with ⟨h1,h2⟩ | ⟨p1,m,p2,h1,h2,h3,h4⟩
   .exact .inr ⟨[],n,p,rfl,h,h1,by rw[e,h2]⟩
   .exact .inr ⟨n::p1,m,p2,by rw[h1];rfl,h2,h3,by rw[e,h4]⟩
  .have e:au b (n::p) i=au b p i:=by show (if i<n.v then _ else _)=_;rw[if_neg h]
   rcases jB i p b with ⟨h1,h2⟩ | ⟨p1,m,p2,h1,h2,h3,h4⟩
   .exact .inl ⟨fun x hx=>(List.mem_cons.1 hx).elim (fun q=>by subst q;omega) (h1 x),by rw[e,h2]⟩
   .exact .inr ⟨n::p1,m,p2,by rw[h1];rfl,h2,h3,by rw[e,h4]⟩
def Nd.kS (n:Nd) (i:Nat):Nd:={ n with v:=i }
section
variable {w0 w:World} {F:SP} {b hr i:Nat} {pre beh:List Nd} {N:Nd} {c y:Int}
theorem lD (N:Nd) (beh:List Nd) (i j:Nat) (h:j≠i):cS de (N.kS i::beh) j=cS de (N.kS (i+1)::beh) j:=by
 rw[dB,dB];show (if j<i then some N.a else _)=(if j<i+1 then some N.a else _);by_cases hj:j<i
 .rw[if_pos hj,if_pos (by omega)]
 .rw[if_neg hj,if_neg (by omega)]
theorem uo {t t':Nat->Option Nat} {i:Nat} (h:t i=t' i): ∀ ns:List Nd,cS t ns i=cS t' ns i:=fun ns=>by
 unfold cS;cases ns.find? (fun n=>decide (i<n.v)) with | some _=>rfl | none=>exact h
theorem vf (pre beh:List Nd) (N:Nd) (i j:Nat):jW (pre++N.kS i::beh)=jW (pre++N.kS j::beh):=by unfold jW;simp[Nd.kS]
theorem mu (b hr:Nat) (pre:List Nd) (n:Nd) (beh:List Nd) (c y:Int) (F:SP):cV b hr (pre++n::beh) c y*F=
 Pt n.a 186 (fH n)*(Pt n.r 183 (cH (cS de beh) n.h n.v)*(br (cS de (n::beh)) pre*(Pt hr 183 (cH (cS (cS de (n::beh)) pre) 8 8)*
  (Pt b 173 #[.slice (some ⟨hr,0,none⟩) 8 8,.int .i64 c,.int .i64 y]*(br de beh*(cd (jW (pre++n::beh))*F)))))):=by
 unfold cV;rw[ig,lu];show Pt b _ _*(Pt hr _ _*(br (cS de (n::beh)) pre*(Pt n.a _ (fH n)*Pt n.r _ (cH (cS de beh) n.h n.v)*br de beh)*cd _))*F=_
 ac_rfl
structure KJ (w0 w:World) (b hr:Nat) (pre beh:List Nd) (N:Nd) (i:Nat) (c y:Int) (F:SP) (A R h:Nat):Prop where
 last:au b pre i=A
 hi:i<h
 head:w.cell? ⟨A,0,none⟩=some (.slice (some ⟨R,0,none⟩) h h)
 link:w.cell? ⟨R,i,none⟩=some (dM (cS de beh i))
 free:w.frozen? ⟨R,i,none⟩=false
 nhead:w.cell? ⟨N.a,0,none⟩=some (.slice (some ⟨N.r,0,none⟩) N.h N.h)
 nlink:w.cell? ⟨N.r,i,none⟩=some (dM none)
 nfree:w.frozen? ⟨N.r,i,none⟩=false
 apart:R≠N.r
 on:Sat w0 (cV b hr (pre++N.kS (i+1)::beh) c y*F) ((w.setCell ⟨N.r,i,none⟩ (dM (cS de beh i))).setCell ⟨R,i,none⟩ (.pointer (some ⟨N.a,0,none⟩)))
theorem Sat.spot (h:Sat w0 (cV b hr (pre++N.kS i::beh) c y*F) w) (hN:i<N.h) (h8:N.h<=8) (hp: ∀ n ∈ pre,n.v=n.h): ∃ A R H,KJ w0 w b hr pre beh N i c y F A R H:=by
 have h1:=h.of (mu b hr pre (N.kS i) beh c y F);have n0:=h1.cell 0;have n1:w.cell? ⟨N.r,i,none⟩=_:=h1.ay.cell i;rw[ke _ (show i<(N.kS i).h from hN),if_neg (by show ¬ i<i;omega)] at n1;have n2:w.frozen? ⟨N.r,i,none⟩=false:=h1.ay.frozen i;have h2:=h1.ay.set i (dM (cS de beh i));rw[show cH (cS de beh) (N.kS i).h (N.kS i).v=cH (cS de beh) N.h i from rfl,Bv] at h2;have hlow: ∀ j,j<i->cS de (N.kS i::beh) j=cS de (N.kS (i+1)::beh) j:=fun j hj=>lD N beh i j (by omega)
 have hself:cS de (N.kS (i+1)::beh) i=some N.a:=by rw[dB,if_pos (by show i<i+1;omega)];rfl
 have hold:cS de (N.kS i::beh) i=cS de beh i:=by rw[dB,if_neg (by show ¬ i<i;omega)]
 rcases jB i pre b with ⟨hl,ha⟩ | ⟨p1,m,p2,rfl,hm,hl,ha⟩
 .have g1:=h1.fN.cell 0;have g2:=h1.bL.cell i;have g3:=h1.bL.frozen i;have hne:hr≠N.r:=by have:=h1.ay.bL;exact(Sat.ne this)
  rw[ke _ (by omega),if_pos (by omega),kU hl,hold] at g2;refine⟨b,hr,8,ha,by omega,g1,g2,g3,n0,n1,n2,hne,?_⟩;have h3:=h2.bL.set i (.pointer (some ⟨N.a,0,none⟩));rw[xB (g:=cS (cS de (N.kS (i+1)::beh)) pre) (by omega) (fun j _ hj _=>uo (lD N beh i j hj) pre) (by rw[kU hl,hself];rfl),nB hl hlow,vf pre beh N i (i+1)] at h3;refine Sat.of ?_ (mu b hr pre (N.kS (i+1)) beh c y F).symm;exact h3.of (by
   show Pt hr _ _*(Pt N.r _ (cH (cS de beh) N.h (i+1))*(Pt N.a _ (fH N)*(br _ pre*(Pt b _ _*(br de beh*(cd _*F))))))=Pt N.a _ (fH N)*(Pt N.r _ (cH (cS de beh) N.h (i+1))*(br _ pre*(Pt hr _ _*(Pt b _ _*(br de beh*(cd _*F))))))
   ac_rfl)
 .have h3:=h1.bp.of (kj _ p1 m p2 _);have g1:=h3.cell 0;have g2:=h3.ay.cell i;have g3:=h3.ay.frozen i;have hmv:=hp m (by simp);have hne:m.r≠N.r:=fun e=>(Sat.ne (h3.right.fN)) e.symm
  rw[ke _ (by omega),if_pos hm,kU hl,hold] at g2;refine⟨m.a,m.r,m.h,ha,by omega,g1,g2,g3,n0,n1,n2,hne,?_⟩;have h4:=(h2.bp.of (kj _ p1 m p2 _)).ay.set i (.pointer (some ⟨N.a,0,none⟩));rw[xB (g:=cS (cS de (N.kS (i+1)::beh)) p2) hm (fun j _ hj _=>uo (lD N beh i j hj) p2) (by rw[kU hl,hself];rfl),nB hl hlow] at h4;have e1:cS (cS de (N.kS i::beh)) (m::p2)=cS (cS de (N.kS (i+1)::beh)) (m::p2):=by
   funext j
   by_cases hj:j=i
   .subst hj;rw[dB,dB,if_pos hm,if_pos hm]
   .exact uo (lD N beh i j hj) _
  have e2:cS (cS de (N.kS i::beh)) (p1++m::p2)=cS (cS de (N.kS (i+1)::beh)) (p1++m::p2):=by rw[ig,ig,e1]
  rw[e1,e2,vf (p1++m::p2) beh N i (i+1)] at h4;refine Sat.of ?_ (mu b hr (p1++m::p2) (N.kS (i+1)) beh c y F).symm;have e3:=kj (cS de (N.kS (i+1)::beh)) p1 m p2 (Pt N.r 183 (cH (cS de beh) N.h (i+1))*(Pt N.a 186 (fH N)*(Pt hr 183 (cH (cS (cS de (N.kS (i+1)::beh)) (p1++m::p2)) 8 8)*
   (Pt b 173 #[.slice (some ⟨hr,0,none⟩) 8 8,.int .i64 c,.int .i64 y]*(br de beh*(cd (jW (p1++m::p2++N.kS (i+1)::beh))*F))))))
  exact(h4.ay.of e3.symm).of (by
   show br _ (p1++m::p2)*(Pt N.r _ (cH (cS de beh) N.h (i+1))*(Pt N.a _ (fH N)*(Pt hr _ _*(Pt b _ _*(br de beh*(cd _*F))))))=Pt N.a _ (fH N)*(Pt N.r _ (cH (cS de beh) N.h (i+1))*(br _ (p1++m::p2)*(Pt hr _ _*(Pt b _ _*(br de beh*(cd _*F))))))
   ac_rfl)
end
def behind (e:aq) (ns:List Nd):List Nd:=ns.dropWhile fun n=>az n.e.ak e
theorem bD (e:aq) (ns:List Nd):ns=ahead e ns++behind e ns:=(List.takeWhile_append_dropWhile).symm
theorem kP {e:aq} {ns s:List Nd} {m:Nd} (h:behind e ns=m::s):¬ dE m.e.ak e:=by
 have:=List.head?_dropWhile_not (fun n:Nd=>az n.e.ak e) ns;unfold behind at h;rw[h] at this;simp at this;unfold dE;rw[this];simp
section
variable {w:World} {b hr:Nat} {ns:List Nd} {e:aq}
def iy (e:aq) (ns:List Nd):Bool:=match behind e ns with | m::_=>decide (oM m.e.ak e=0) | []=>false
theorem BB (hok:wk ns):iy e ns=true↔ ∃ n ∈ ns,iX n.e.ak e:=by
 unfold iy;have hs:=hok.sort;have ha:=bD e ns;constructor
 .intro h
  cases hb:behind e ns with
  | nil=>rw[hb] at h;simp at h
  | cons m s=>
   rw[hb] at h;refine⟨m,by rw[ha,hb];simp,pE.1 (by simpa using h)⟩
 .rintro ⟨n,hn,hsame⟩;rw[ha] at hn;rcases List.mem_append.1 hn with hn | hn
  .exact absurd (ja hn).2 (np hsame)
  .cases hb:behind e ns with
   | nil=>rw[hb] at hn;simp at hn
   | cons m s=>
    rw[hb] at hn;rcases List.mem_cons.1 hn with q | hn
    .subst q;simpa using pE.2 hsame
    .exfalso;rw[ha,hb,List.pairwise_append,List.pairwise_cons] at hs;have h1:=hs.2.1.1 n hn;refine kP hb ?_;rw[cK] at h1 ⊢;rw[<-hsame.1, <-hsame.2];exact h1
theorem View.last (v:View w b hr ns) (hok:wk ns) {pre beh:List Nd} (hs:ns=pre++beh) {i:Nat} (hi:i<8):
 ∃ R h,i<h/\w.cell? ⟨au b pre i,0,none⟩=some (.slice (some ⟨R,0,none⟩) h h)/\w.cell? ⟨R,i,none⟩=some (dM (cS de beh i)):=by
 subst hs;rcases jB i pre b with ⟨hl,ha⟩ | ⟨p1,m,p2,rfl,hm,hl,ha⟩
 .refine⟨hr,8,hi,by rw[ha];exact v.head,?_⟩;have:=v.links i hi;rwa [ig,kU hl] at this
 .obtain⟨h1,_,_,_,_,h6,_⟩:=v.node p1 m (p2++beh) (by simp);have hf:=hok.full m (by simp);refine⟨m.r,m.h,by omega,by rw[ha];exact h1,?_⟩;have:=h6 i (by omega);rwa [ig,kU hl] at this
end
theorem EN (K:Nat):madeCells #[.pointer none] K=cH de K 0:=by
 apply Array.ext';apply List.ext_getElem?;intro i;unfold madeCells cH;by_cases h:i<K
 .simp[h,dM];rw[Nat.mod_one];rfl
 .simp[h]
theorem DW:(Tryz.prog.info? 183).map (fun i=>(i.zero,i.size,i.bytes))=some (some (.pointer none),1,8):=by kernel_rfl
theorem sM (n:Nat) (hn:n<=1000000) (W:World):(Instr.makeSlice 169 (.int .i64 (n:Int)) (.int .i64 (n:Int))).run Tryz.prog W=
 .ok (.slice (some ⟨W.heap.size,0,none⟩) n n) (W.alloc (.cells (cH de n 0) 183)):=by
 obtain⟨i0,hi,hz0,hz1,hz2⟩:=info_parts DW;have hr:=run_make (P:= Tryz.prog) W 169 183 i0 _ Tryz.underlying169 hi hz0 .i64 .i64 n n (by omega) (by omega) (by rw[hz2];omega) (by omega);have hc:(Value.pointer none).cells = #[.pointer none]:=rfl;simpa [hz1,hc,EN] using hr
def eJ (H:Int):Nat:=(min (max H 1) 8).toNat
section
variable {w0 w:World} {F G:SP} {b hr:Nat} {pre beh ns:List Nd} {N:Nd} {c y:Int}
theorem wA {A B:Option Addr} {cA cB:Nat} {k v:List UInt8} (h:Sat w0 (Row 5 1 (.slice A k.length cA) k.length (k.map bv)*(Row 5 1 (.slice B v.length cB) v.length (v.map bv)*G)) w):Sat w0 (cd [(A,cA,k),(B,cB,v)]*G) w:=by
 obtain⟨A1,c1,e1,_,_,h1⟩:=h.xU;injection e1 with e1 _ _
 subst e1;obtain⟨B1,d1,e2,_,_,h2⟩:=h1.ay.xU;injection e2 with e2 _ _
 subst e2;have h3:Sat w0 (Rb B v*(Rb A k*G)) w:=h2;rw[show Rb B v=cd [(B,cB,v)] from qN (B,cB,v),show Rb A k=cd [(A,cA,k)] from qN (A,cA,k)] at h3;exact h3.ay.iA
theorem Hw (h:Sat w0 (Pt N.a 186 (fH N)*(Pt N.r 183 (cH de N.h 0)*(cd [N.e.key,N.e.value]*(cV b hr (pre++beh) c y*F)))) w):Sat w0 (cV b hr (pre++N.kS 0::beh) c y*F) w:=by
 refine Sat.of ?_ (mu b hr pre (N.kS 0) beh c y F).symm;have e1:cS de (N.kS 0::beh)=cS de beh:=by funext j;rw[dB,if_neg (by show ¬ j<0;omega)]
 have e2:cH (cS de beh) (N.kS 0).h (N.kS 0).v=cH de N.h 0:=qW (fun j _ hj=>by have:j<0:=hj;omega);rw[e1,e2];have h1:Sat w0 (cd ([N.e.key,N.e.value]++jW (pre++beh))*(Pt N.a 186 (fH N)*(Pt N.r 183 (cH de N.h 0)*(br (cS de beh) pre*(Pt hr 183 (cH (cS (cS de beh) pre) 8 8)*
  (Pt b 173 #[.slice (some ⟨hr,0,none⟩) 8 8,.int .i64 c,.int .i64 y]*(br de beh*F))))))) w:=h.of (by
  rw[<-ir];unfold cV;rw[ig,lu]
  ac_rfl)
 have h2:=h1.ij (rs':=jW (pre++N.kS 0::beh)) (by intro r hr;unfold jW at hr ⊢;simp[Nd.kS] at hr ⊢;rcases hr with hr | hr | hr | hr<;>simp[hr]);exact h2.of (by
  show cd _*(Pt N.a _ (fH N)*(Pt N.r _ _*(br _ pre*(Pt hr _ _*(Pt b _ _*(br de beh*F))))))=Pt N.a _ (fH N)*(Pt N.r _ _*(br _ pre*(Pt hr _ _*(Pt b _ _*(br de beh*(cd _*F))))))
  ac_rfl)
theorem fB (b hr:Nat) (ns:List Nd) (c y:Int) (F:SP):cV b hr ns c y*F=Pt b 173 #[.slice (some ⟨hr,0,none⟩) 8 8,.int .i64 c,.int .i64 y]*(Pt hr 183 (cH (cS de ns) 8 8)*(br de ns*(cd (jW ns)*F))):=by
 unfold cV;ac_rfl
theorem Sat.I2 (h:Sat w0 (cV b hr ns c y*F) w):w.cell? ⟨b,1,none⟩=some (.int .i64 c):=(h.of (fB ..)).cell 1
theorem Sat.Jm (h:Sat w0 (cV b hr ns c y*F) w):w.cell? ⟨b,2,none⟩=some (.int .i64 y):=(h.of (fB ..)).cell 2
theorem Sat.xh (h:Sat w0 (cV b hr ns c y*F) w) (i:Nat):w.frozen? ⟨b,i,none⟩=false:=(h.of (fB ..)).frozen i
theorem Sat.EP (h:Sat w0 (cV b hr ns c y*F) w) (c':Int):Sat w0 (cV b hr ns c' y*F) (w.setCell ⟨b,1,none⟩ (.int .i64 c')):=Sat.of ((h.of (fB ..)).set 1 (.int .i64 c')) (fB ..).symm
theorem Sat.Fx (h:Sat w0 (cV b hr ns c y*F) w) (y':Int):Sat w0 (cV b hr ns c y'*F) (w.setCell ⟨b,2,none⟩ (.int .i64 y')):=Sat.of ((h.of (fB ..)).set 2 (.int .i64 y')) (fB ..).symm
end
def KU (w0:World) (F:SP) (b hr:Nat) (ns:List Nd) (c y:Int) (e:aq) (H:Int) (x:Ending) (w':World):Prop:=
 (iy e ns=true/\x = .returned (.int .i64 50)/\Sat w0 (cV b hr ns c y*F) w')\/
 (iy e ns=false/\x = .returned (.int .i64 0)/\ ∃ N:Nd,N.e.ak=e/\N.v=N.h/\N.h=eJ H/\Sat w0 (cV b hr (ahead e ns++N::behind e ns) (c+1) (y+((e.key.length+e.value.length:Nat):Int))*F) w')
theorem De (b hr:Nat) (ns:List Nd) (c y H:Int) (e:En) (w0 w:World) (F:SP) (h:Sat w0 (cV b hr ns c y*F) w) (hok:wk ns) (he:oD w e)
 (hk:e.key.2.2.length<=1000000000) (hv:e.value.2.2.length<=1000000000) (hc:0<=c/\c<=1000000000000) (hy:0<=y/\y<=1000000000000):
 Calls Tryz.prog 62 #[.pointer (some ⟨b,0,none⟩),iN e,.int .i64 H] w (KU w0 F b hr ns c y e.ak H):=by
 have HEA:Hid (∀ e:En,iN e = .agg #[.slice e.key.1 e.key.2.2.length e.key.2.1,.slice e.value.1 e.value.2.2.length e.value.2.1,.int .i64 e.seq,.bool e.dead]):=fun _=>rfl
 have HV:=ah (h.view hok);have HE:=ah he;have HO:=ah hok;have s1:=h.bO (b:=w.heap.size) 120 (Ey e) rfl;obtain⟨W,hW⟩: ∃ W,W=w.alloc (.cells (Ey e) 120):=⟨_,rfl⟩;obtain⟨E,hE⟩: ∃ E,E=w.heap.size:=⟨_,rfl⟩;have HC1:Hid (ao No w W):=by rw[hW];exact(ao.refl No w).alloc _
 rw[<-hW, <-hE] at s1;have HS1:=ah s1;have HQ:Hid (Value.agg (gg b (ahead e.ak ns) 0) = .agg #[.pointer (some ⟨au b (ahead e.ak ns) 0,0,none⟩),.pointer (some ⟨au b (ahead e.ak ns) 1,0,none⟩),.pointer (some ⟨au b (ahead e.ak ns) 2,0,none⟩),.pointer (some ⟨au b (ahead e.ak ns) 3,0,none⟩),.pointer (some ⟨au b (ahead e.ak ns) 4,0,none⟩),.pointer (some ⟨au b (ahead e.ak ns) 5,0,none⟩),.pointer (some ⟨au b (ahead e.ak ns) 6,0,none⟩),.pointer (some ⟨au b (ahead e.ak ns) 7,0,none⟩)]):=rfl;have eC:Ey e = #[.slice e.key.1 e.key.2.2.length e.key.2.1,.slice e.value.1 e.value.2.2.length e.value.2.1,.int .i64 e.seq,.bool e.dead]:=rfl;rw[eC] at hW;rw[HEA.o];clear h he hok;go_enter Tryz.func62, Tryz.ntmps62;clear eC s1;have HW:=ah hW;have HEq:=ah hE;clear hW hE;go_upto_region 3 with (go_at_call 108;rw[<-HW.o, <-HEq.o];refine(mi b hr ns e W (HV.o.new HC1.o) HO.o (HE.o.new HC1.o)).mono ?_;rintro x w2 ⟨rfl,k2⟩;rw[HQ.o];have HV2:=ah ((HV.o.new HC1.o).new k2);have HS2:=ah (HS1.o.new k2);obtain⟨R,h',hlt,q0,q1⟩:=(HV2.o.new ((ao.refl No w2).alloc (.cells #[.pointer (some ⟨au b (ahead e.ak ns) 0,0,none⟩),.pointer (some ⟨au b (ahead e.ak ns) 1,0,none⟩),.pointer (some ⟨au b (ahead e.ak ns) 2,0,none⟩),.pointer (some ⟨au b (ahead e.ak ns) 3,0,none⟩),.pointer (some ⟨au b (ahead e.ak ns) 4,0,none⟩),.pointer (some ⟨au b (ahead e.ak ns) 5,0,none⟩),.pointer (some ⟨au b (ahead e.ak ns) 6,0,none⟩),.pointer (some ⟨au b (ahead e.ak ns) 7,0,none⟩)] 181))).last HO.o (bD e.ak ns) (i:=0) (by omega))
 obtain⟨W3,hW3⟩: ∃ W3,W3=w2.alloc (.cells #[.pointer (some ⟨au b (ahead e.ak ns) 0,0,none⟩),.pointer (some ⟨au b (ahead e.ak ns) 1,0,none⟩),.pointer (some ⟨au b (ahead e.ak ns) 2,0,none⟩),.pointer (some ⟨au b (ahead e.ak ns) 3,0,none⟩),.pointer (some ⟨au b (ahead e.ak ns) 4,0,none⟩),.pointer (some ⟨au b (ahead e.ak ns) 5,0,none⟩),.pointer (some ⟨au b (ahead e.ak ns) 6,0,none⟩),.pointer (some ⟨au b (ahead e.ak ns) 7,0,none⟩)] 181):=⟨_,rfl⟩;obtain⟨O,hO⟩: ∃ O,O=w2.heap.size:=⟨_,rfl⟩;have HS3:Hid (Sat w0 (Pt O 181 (gg b (ahead e.ak ns) 0)*(Pt E 120 (Ey e)*(cV b hr ns c y*F))) W3):=by rw[hW3,hO];exact HS2.o.ab _ _
 have HV3:Hid (View W3 b hr ns):=by rw[hW3];exact HV2.o.new ((ao.refl No w2).alloc _)
 have HE3:Hid (oD W3 e):=by rw[hW3];exact((HE.o.new HC1.o).new k2).new ((ao.refl No w2).alloc _)
 rw[<-hW3, <-hO];clear hW3 hO q0 q1 k2 hlt HS2 HV2 HS1 HW HEq HC1;go_cut [8,31] (fun _ s wx=>s = .bool (iy e.ak ns)/\Hid (oD wx e/\Sat w0 (Pt O 181 (gg b (ahead e.ak ns) 0)*(Pt E 120 (Ey e)*(cV b hr ns c y*F))) wx))
 case first=>
  rcases jg (behind e.ak ns) 0 with ⟨e1,hlow⟩ | ⟨u,m,t,e2,e1,hm,hu⟩
  .have hnil:behind e.ak ns=[]:=by
    cases hb:behind e.ak ns with
    | nil=>rfl
    | cons m s=>
     have h1:=hlow m (by rw[hb];simp);have h2:=HO.o.full m (by rw[bD e.ak ns,hb];simp);omega
   have HT:Hid (iy e.ak ns=false):=by unfold Hid iy;rw[hnil]
   have e3:dM (cS de (behind e.ak ns) 0) = .pointer none:=by rw[e1];rfl
   rw[e3];clear e1 e3 hlow hnil;go_region
   go_wp2_with fail;go_meet
   exact⟨by rw[HT.o],HE3.o.new (ao.refl No _).drew,HS3.o.drew⟩
  .have hu0:u=[]:=by
    cases hb:u with
    | nil=>rfl
    | cons x s=>
     have h1:=hu x (by rw[hb];simp);have h2:=HO.o.full x (by rw[bD e.ak ns,e2,hb];simp);omega
   subst hu0;rw[List.nil_append] at e2;have HT0:Hid (iy e.ak ns=decide (oM m.e.ak e.ak=0)):=by unfold Hid iy;rw[e2]
   have e3:dM (cS de (behind e.ak ns) 0) = .pointer (some ⟨m.a,0,none⟩):=by rw[e1];rfl
   rw[e3];obtain⟨n0,n1,n2,n3,n4,n5,n6⟩:=HV3.o.node (ahead e.ak ns) m t (by rw[<-e2];exact bD _ _);unfold aJ at n1 n2;have HN:=ah n6;clear e1 e3 hm hu n5 n6 n0 e2;have c0:=HS3.o.ay.cell 0;have c1:=HS3.o.ay.cell 1;have c2:=HS3.o.ay.cell 2;have c3:=HS3.o.ay.cell 3;go_region_law (go_simp;go_at_call 109;refine(rH m.e e _ (HN.o.new (ao.refl No W3).drew) (HE3.o.new (ao.refl No W3).drew)).mono ?_;rintro x w5 ⟨rfl,k5⟩)
   all_goals
    go_wp2_with fail;go_meet
    exact⟨by rw[HT0.o];exact congrArg Value.bool (by rw[Bool.eq_iff_iff];simp),(HE3.o.new (ao.refl No W3).drew).new k5,HS3.o.drew.new k5⟩
 case rest=>
  obtain⟨hs,hcut⟩:=hcut;subst hs;obtain⟨w5,hw5⟩: ∃ w5,w5=wc:=⟨_,rfl⟩;rw[<-hw5] at hcut;rw[<-hw5];have HC5:=hcut;clear hw5 HV3 HS3 HE3 hcut wc
  cases hb:iy e.ak ns with
  | true=>
   have HT:=ah hb;clear hb;go_wp2_with fail;go_ret;exact .inl ⟨HT.o,rfl,HC5.o.2.right.right⟩
  | false=>
   have HT:=ah hb;clear hb;go_upto_region 5 with fail;go_cut [2] (fun s wx=>s = .int .i64 (eJ H)/\Hid (wx=w5))
   case first=>
    have HK:Hid (eJ H=(min (max H 1) 8).toNat):=rfl;go_wp2_with fail
    all_goals
     go_meet
     refine⟨?_,rfl⟩;congr 1
     rw[HK.o];omega
   case rest=>
    obtain⟨hs,hcw⟩:=hcut;subst hs;have hcw:=hcw.o;subst hcw;have hKl:1<=eJ H:=by unfold eJ;omega
    have hKu:eJ H<=8:=by unfold eJ;omega
    have HK:Hid (eJ H=eJ H):=rfl;revert hKl hKu HK;generalize hKK:eJ H=K;intro hKl hKu HK;have HKK:=ah hKK;clear hKK HK;have c0:=HC5.o.2.ay.cell 0;have c1:=HC5.o.2.ay.cell 1;have c2:=HC5.o.2.ay.cell 2;have c3:=HC5.o.2.ay.cell 3;go_upto_region 6 with fail;go_cut [9] (fun s wx=> ∃ N:Nd,s = .pointer (some ⟨N.a,0,none⟩)/\Hid (N.e.ak=e.ak/\N.h=K/\N.v=0/\
     Sat w0 (Pt N.a 186 (fH N)*(Pt N.r 183 (cH de N.h 0)*(cd [N.e.key,N.e.value]*(Pt O 181 (gg b (ahead e.ak ns) 0)*(Pt E 120 (Ey e)*(cV b hr ns c y*F)))))) wx))
    case first=>
     have hmk:=fun W=>sM K (by omega) W
     have d0:=(HC5.o.2.aD (.cells (cH de K 0) 183)).ay.cell 0;have d1:=(HC5.o.2.aD (.cells (cH de K 0) 183)).ay.cell 1;have d2:=(HC5.o.2.aD (.cells (cH de K 0) 183)).ay.cell 2;have d3:=(HC5.o.2.aD (.cells (cH de K 0) 183)).ay.cell 3;have hk2:e.key.2.2.length<=140737488355328:=by omega
     have hv2:e.value.2.2.length<=140737488355328:=by omega
     go_region_law (first
      | (go_simp;go_at_call 110;refine(jF e w0 _ _ (HC5.o.2.drew) (HC5.o.1.new (ao.refl No wc).drew) hk2 hv2).mono ?_;rintro x w6 ⟨⟨A,cA,B,cB,rfl,hs6⟩,k6⟩;have HS6:=ah hs6;clear hs6 k6;simp only[iN])
      | (go_simp;go_at_call 110;refine(jF e w0 _ _ ((HC5.o.2.drew).ab 183 (cH de K 0)) (HC5.o.1.new ((ao.refl No wc).drew.alloc (.cells (cH de K 0) 183))) hk2 hv2).mono ?_;rintro x w6 ⟨⟨A,cA,B,cB,rfl,hs6⟩,k6⟩;have HS6:=ah hs6;clear hs6 k6;simp only[iN]))
     all_goals
      go_wp2_with fail;go_meet
      first
       | exact⟨⟨_,_,⟨(A,cA,e.key.2.2),(B,cB,e.value.2.2),e.seq,e.dead⟩,K,0⟩,rfl,rfl,rfl,rfl,((wA HS6.o).bO 186 _ rfl).bp.ay⟩
       | exact⟨⟨_,_,⟨(A,cA,e.key.2.2),(B,cB,e.value.2.2),e.seq,e.dead⟩,K,0⟩,rfl,rfl,rfl,rfl,((wA HS6.o).ab 183 (cH de K 0)).bO 186 _ (by simp)⟩
    case rest=>
     obtain⟨N,hs,hN⟩:=hcut;subst hs;have hNe:=hN.o.1;have hNK:=hN.o.2.1;have hx:=hN.o.2.2.2;have e0:=bD e.ak ns;obtain⟨pre,hpre⟩: ∃ pre,pre=ahead e.ak ns:=⟨_,rfl⟩;obtain⟨beh,hbeh⟩: ∃ beh,beh=behind e.ak ns:=⟨_,rfl⟩;rw[<-hpre, <-hbeh] at e0;rw[<-hpre,show cV b hr ns c y=cV b hr (pre++beh) c y from congrArg (cV b hr · c y) e0] at hx;have hx2:=Hw (N:=N) (pre:=pre) (beh:=beh) (hx.of (show _=_*(_*(_*(cV b hr (pre++beh) c y*(Pt O 181 (gg b pre 0)*(Pt E 120 (Ey e)*F))))) by ac_rfl));have hfp: ∀ n ∈ pre,n.v=n.h:=fun n hn=>(HO.o.full n (by rw[e0];simp[hn])).1
     have HX:=ah hx2;have HFp:=ah hfp;have HNe:=ah hNe;subst hNK;have Hpre:=ah hpre;have Hbeh:=ah hbeh;clear hx hx2 hfp hNe hpre hbeh e0 hN HC5 c0 c1 c2 c3;go_wp2_with fail;go_loopw [43] (fun i wr=> ∃ k:Nat,k<=N.h/\i = .int .i64 k/\Hid (Sat w0 (cV b hr (pre++N.kS k::beh) c y*(Pt O 181 (gg b pre 0)*(Pt E 120 (Ey e)*F))) wr)) (fun i _=>N.h - (intOf i).toNat)
     case atStart=>exact⟨0,by omega,rfl,HX.o⟩
     case round=>
      obtain⟨k,hk9,rfl,HD⟩:=hrel;by_cases hlt:k<N.h
      .obtain⟨A,R,hh,sp⟩:=HD.o.spot hlt hKu HFp.o;have o1:wr.cell? ⟨O,k,none⟩=some (.pointer (some ⟨A,0,none⟩)):=by
        rw[HD.o.ay.cell k,pU _ _ _ (by omega),if_pos (by omega),sp.last];rfl
       have p0:=sp.hi;have p1:=sp.head;have p2:=sp.link;have p3:=sp.free;have p4:=sp.nhead;have p5:=sp.nlink;have p6:=sp.nfree;have p7:=sp.apart;have p8:¬ N.r=R:=fun q=>p7 q.symm
       have hon:=sp.on;have e5:dM none = .pointer none:=rfl;rw[e5] at p5;obtain⟨PP,hPP⟩: ∃ PP,dM (cS de beh k) = .pointer PP:=⟨_,rfl⟩;rw[hPP] at p2 hon;have HOn:=ah hon;clear hon hPP e5 sp;have hk8:k<8:=by omega
       go_wp2_with fail;go_region
       go_wp2_with fail;go_roundw
       .exact⟨k+1,by omega,by push_cast;rfl,HOn.o.drew⟩
       .simp[intOf]<;>omega
      .have hkN:k=N.h:=by omega
       subst hkN;have hw1:IntKind.i64.wrap (c+1)=c+1:=by rw[IntKind.wrap_i64];omega
       have hw2:IntKind.i64.wrap ((e.key.2.2.length:Int)+e.value.2.2.length)=(e.key.2.2.length:Int)+e.value.2.2.length:=by rw[IntKind.wrap_i64];omega
       have hw3:IntKind.i64.wrap (y+((e.key.2.2.length:Int)+e.value.2.2.length))=y+((e.key.2.2.length:Int)+e.value.2.2.length):=by rw[IntKind.wrap_i64];omega
       have q1:=HD.o.I2;have q2:=HD.o.xh 1;have h7:=HD.o.EP (c+1);have q3:=h7.Jm;have q4:=h7.xh 2;have q5:=h7.bp.cell 0;have q6:=h7.bp.cell 1;have HS7:=ah h7;clear h7;go_wp2_with fail;go_region
       go_wp2_with fail;go_ret;have h9:=(HS7.o.Fx (y+((e.key.2.2.length:Int)+e.value.2.2.length))).drew;rw[Hpre.o,Hbeh.o] at h9;refine .inr ⟨HT.o,rfl,N.kS N.h,HNe.o,rfl,HKK.o.symm,?_⟩;have ey:(((e.ak.key.length+e.ak.value.length:Nat):Int))=(e.key.2.2.length:Int)+e.value.2.2.length:=by push_cast;rfl
       rw[ey];exact h9.bo.bo
def uK (tl:List UInt8) (e:aq):Bool:=decide (tl=[]) || decide (Lib.compareBytes e.key tl<0)
def nn (tl:List UInt8) (i:Nat) (s:List Nd):List aq:=((s.filter fun n=>decide (i<n.v)).map fun n=>n.e.ak).takeWhile (uK tl)
theorem Cj {tl:List UInt8} {i:Nat} {s:List Nd} (h: ∀ n ∈ s,n.v<=i):nn tl i s=[]:=by
 unfold nn;have:s.filter (fun n=>decide (i<n.v))=[]:=List.filter_eq_nil_iff.2 fun n hn=>by have:=h n hn;simp;omega
 rw[this];rfl
theorem C8 {tl:List UInt8} {i:Nat} {u t:List Nd} {m:Nd} (hu: ∀ n ∈ u,n.v<=i) (hm:i<m.v):nn tl i (u++m::t)=if uK tl m.e.ak then m.e.ak::nn tl i t else []:=by
 unfold nn;have:u.filter (fun n=>decide (i<n.v))=[]:=List.filter_eq_nil_iff.2 fun n hn=>by have:=hu n hn;simp;omega
 rw[List.filter_append,this,List.nil_append,List.filter_cons,if_pos (by simpa using hm),List.map_cons,List.takeWhile_cons]
def aT:List En->SP
 | []=>bF
 | e::es=>Row 5 1 (aJ e.key) e.key.2.2.length (e.key.2.2.map bv)*(Row 5 1 (aJ e.value) e.value.2.2.length (e.value.2.2.map bv)*aT es)
theorem fu (e:En): ∀ es:List En,aT (es++[e])=Row 5 1 (aJ e.key) e.key.2.2.length (e.key.2.2.map bv)*(Row 5 1 (aJ e.value) e.value.2.2.length (e.value.2.2.map bv)*aT es)
 | []=>rfl
 | x::es=>by
  show Row _ _ _ _ _*(Row _ _ _ _ _*aT (es++[e]))=_;rw[fu e es];show _=Row _ _ _ _ _*(Row _ _ _ _ _*(Row _ _ _ _ _*(Row _ _ _ _ _*aT es)))
  ac_rfl
def lO (w:World) (l:List aq) (x:Ending) (w':World):Prop:= ∃ (es:List En) (A:Option Addr) (c:Nat),x = .returned (.slice A es.length c)/\es.map En.ak=l/\
 Sat w (Row 120 4 (.slice A es.length c) es.length (es.flatMap bV)*aT es) w'
structure Small (ns:List Nd):Prop where
 len:ns.length<=1000000
 each: ∀ n ∈ ns,n.e.key.2.2.length<=1000000000/\n.e.value.2.2.length<=1000000000
theorem jy:(Tryz.prog.info? 120).map (fun i=>(i.zero,i.size,i.bytes))=some (some (.agg #[.slice none 0 0,.slice none 0 0,.int .i64 0,.bool false]),4,64):=by kernel_rfl
structure Lq (w:World) (ns:List Nd) (tl:List UInt8) (i:Nat) (l:List aq) (p s:List Nd) (es:List En) (A:Option Addr) (c:Nat) (wr:World):Prop where
 eq:ns=p++s
 told:l=es.map En.ak++nn tl i s
 len:es.length<=p.length
 sat:Sat w (Row 120 4 (.slice A es.length c) es.length (es.flatMap bV)*aT es) wr
theorem pD (T:Option Addr) (Tc:Nat) (tl:List UInt8) (b hr:Nat) (ns p0 s0:List Nd) (i:Nat) (w:World) (hto:Rd w T tl) (hv:View w b hr ns) (hok:wk ns) (hsm:Small ns) (hs:ns=p0++s0) (hi:i<8):
 Calls Tryz.prog 154 #[dM (cS de s0 i),.int .i64 i,.slice T tl.length Tc] w (lO w (nn tl i s0)):=by
 have HV:=ah hv;have HO:=ah hok;have HT:=ah hto;have HS:=ah hsm;have H0:=ah hs;obtain⟨i0,hi0,hz0,hz1,hz2⟩:=info_parts jy;clear hv hok hto hsm hs;by_cases h0:tl=[]
 case' pos=>
  have HZ:=ah h0;rw[show tl.length=0 by rw[h0];rfl];have h1:True:=trivial;clear h0
 case' neg=>
  have HZ:=ah h0;have h1:¬ tl.length=0:=by simpa using h0
  clear h0
 all_goals
  go_enter Tryz.func154, Tryz.ntmps154;go_wp2_with fail;go_loopw [0,7] (fun n out wr=> ∃ (p s:List Nd) (es:List En) (A:Option Addr) (c:Nat),n=dM (cS de s i)/\out = .slice A es.length c/\Hid (Lq w ns tl i (nn tl i s0) p s es A c wr)) (fun n _ _=>DU ns n)
  case atStart=>exact⟨p0,s0,[],none,0,rfl,rfl,H0.o,rfl,by simp,((Sat.start w).aN _ 4).of (by rfl)⟩
  case round=>
   obtain⟨p,s,es,A,c,rfl,rfl,HD⟩:=hrel;rcases jg s i with ⟨e1,hlow⟩ | ⟨u,m,t,e2,e1,hm,hu⟩
   .have e3:dM (cS de s i) = .pointer none:=by rw[e1];rfl
    rw[e3];have ht:=HD.o.told;rw[Cj hlow,List.append_nil] at ht;have HTl:=ah ht;clear e1 e3 hlow ht;go_wp2_with fail;go_ret;exact⟨es,A,c,rfl,HTl.o.symm,HD.o.sat⟩
   .have e3:dM (cS de s i) = .pointer (some ⟨m.a,0,none⟩):=by rw[e1];rfl
    rw[e3];have hv2:=HV.o.new HD.o.sat.aL;have hsp:=HD.o.eq;obtain⟨n0,n1,n2,n3,n4,n5,n6⟩:=hv2.node (p++u) m t (by rw[hsp,e2];simp);have n7:=n5 i (by have:=HO.o.full m (by rw[hsp,e2];simp);omega);have hmi:i<m.h:=by have:=HO.o.full m (by rw[hsp,e2];simp);omega
    unfold aJ at n1 n2;have HN:=ah n6;have HTw:=ah (HT.o.new HD.o.sat.aL);have hdup:=ah hv2.nodup;have hml:=HS.o.each m (by rw[hsp,e2];simp);have hk2:m.e.key.2.2.length<=140737488355328:=by omega
    have hv3:m.e.value.2.2.length<=140737488355328:=by omega
    have hlen:es.length<=1000000:=by have h1:=HD.o.len;have h2:=HS.o.len;rw[hsp,List.length_append] at h2;omega
    have ht:=HD.o.told;rw[e2,C8 hu hm] at ht;have HTl:=ah ht;have E1:=ah hsp;have E2:=ah e2;clear ht e1 e3 e2 hsp n5 n6 hv2 hml hm hu;have hin:uK tl m.e.ak=(decide (tl=[]) || decide (Lib.compareBytes m.e.key.2.2 tl<0)):=rfl;go_wp2_with (first
     | (go_at_call 145;refine(pS m.e.key (T,Tc,tl) _ HN.o.1 HTw.o).mono ?_;rintro x wx ⟨rfl,rfl⟩)
     | (go_at_call 110;refine(jF m.e w _ _ HD.o.sat HN.o hk2 hv3).mono ?_;rintro x w6 ⟨⟨A2,c2,B2,d2,rfl,hs6⟩,k6⟩;have HS6:=ah hs6;clear hs6 k6;simp only[iN])
     | (at_builtin;refine av rfl (.tmp 33) (.tmp 39) 116 rfl 120 i0 _ 4 64 Tryz.underlying116 hi0 hz0 hz1 hz2 rfl (by decide) (.slice A es.length c) es.length (es.flatMap bV) rfl w _ (by exact(HS6.o.aD _).bp) (some ⟨w6.heap.size,0,none⟩) 1 1 [.slice A2 m.e.key.2.2.length c2,.slice B2 m.e.value.2.2.length d2,.int .i64 m.e.seq,.bool m.e.dead] rfl (aR _ _ _) rfl (by intro u hu;simp at hu;rcases hu with rfl | rfl | rfl | rfl<;>rfl) (by unfold maxLen;omega) (by omega) ?_;intro A3 c3 w7 hs7;have HS7:=ah hs7;obtain⟨r0,_,_,_,_,r5,_⟩:=(HV.o.new hs7.aL).node (p++u) m t (by rw[E1.o,E2.o];simp);have r7:=r5 i hmi;clear r5 hs7))
    all_goals first
     | (go_ret
        have hB:uK tl m.e.ak=false:=by
         have h2:=HZ.o;rw[hin];simp[h2];omega
        refine⟨es,A,c,rfl,?_,HD.o.sat⟩;rw[HTl.o,hB];simp)
     | (refine⟨⟨p++(u++[m]),t,es++[⟨(A2,c2,m.e.key.2.2),(B2,d2,m.e.value.2.2),m.e.seq,m.e.dead⟩],A3,c3,rfl,by rw[List.length_append];rfl,?_⟩,?_⟩
        .have hB:uK tl m.e.ak=true:=by
          rw[hin];have h2:=HZ.o;simp[h2]
          all_goals (rcases ‹((tl.length:Int)==0)=true\/Lib.compareBytes m.e.key.2.2 tl<0› with q | q;exact absurd (by simpa using q) h2;exact q)
         refine⟨by rw[E1.o,E2.o];simp,?_,?_,?_⟩
         .rw[HTl.o,hB,if_pos rfl,List.map_append,List.append_assoc];rfl
         .have:=HD.o.len;simp only[List.length_append,List.length_cons,List.length_nil];omega
         .refine HS7.o.of ?_;rw[fu,List.flatMap_append,List.length_append];rfl
        .have r1:=tX (p:=p++u) (s:=t) (m:=m) hdup.o (by rw[E1.o,E2.o];simp);have r2:=vy (p:=p++(u++[m])) (s:=t) (i:=i) hdup.o (by rw[E1.o,E2.o];simp);omega)
theorem Sat.iO {w w2 w3:World} {A:SP} (k:ao No w w2) (h:Sat w2 A w3):Sat w A w3:=by
 obtain⟨x,h1,h2⟩:=h.hp;have:=k.size;exact⟨k.tr h.aL,x,fun b y hy=>⟨(h1 b y hy).1,fun e=>by have:=(h1 b y hy).2 e;omega⟩,h2⟩
theorem GY:wk []:=⟨by simp,List.Pairwise.nil⟩
theorem vE (w0 w:World) (F:SP) (h:Sat w0 F w):Calls Tryz.prog 58 #[] w fun x w'=> ∃ b hr,x = .returned (.pointer (some ⟨b,0,none⟩))/\Sat w0 (cV b hr [] 0 0*F) w':=by
 have hmk: ∀ W,(Instr.makeSlice 169 (.int .i64 8) (.int .i64 8)).run Tryz.prog W = .ok (.slice (some ⟨W.heap.size,0,none⟩) 8 8) (W.alloc (.cells (cH de 8 0) 183)):=fun W=>sM 8 (by omega) W
 have HS:=ah h;clear h;go_enter Tryz.func58, Tryz.ntmps58;go_wp2_with fail;go_ret;have h1:=(HS.o.ab 183 (cH de 8 0)).bO (b:=w.heap.size+1) 173 #[.slice (some ⟨w.heap.size,0,none⟩) 8 8,.int .i64 0,.int .i64 0] (by simp);refine⟨_,w.heap.size,rfl,?_⟩;refine Sat.of ?_ (fB ..).symm;have h3:Sat w0 (cd (jW [])*(Pt (w.heap.size+1) 173 #[.slice (some ⟨w.heap.size,0,none⟩) 8 8,.int .i64 0,.int .i64 0]*(Pt w.heap.size 183 (cH de 8 0)*F))) _:=h1.mj _ (by simp[jW]);exact h3.of (by
  show cd (jW [])*(Pt _ _ _*(Pt _ _ (cH de 8 0)*F))=Pt _ _ _*(Pt _ _ (cH de 8 0)*(bF*(cd (jW [])*F)));rw[bf];ac_rfl)
def cQ (l:List UInt8):aq:=⟨l,[],9223372036854775807,false⟩
def yd (fl tl:List UInt8) (ns:List Nd):List aq:=nn tl 0 (behind (cQ fl) ns)
theorem qO (a0 a1 a2 a3 a4 a5 a6 a7:Option Addr) (W:World):(Instr.index 181 (.agg #[.pointer a0,.pointer a1,.pointer a2,.pointer a3,.pointer a4,.pointer a5,.pointer a6,.pointer a7]) (.int .i64 0)).run Tryz.prog W = .ok (.pointer a0) W:=by
 simp[Instr.index,run_underlying Tryz.underlying181,asIntOf,go_sem]
theorem CR (FA:Option Addr) (Fc:Nat) (fl:List UInt8) (T:Option Addr) (Tc:Nat) (tl:List UInt8) (b hr:Nat) (ns:List Nd) (w:World) (hf:Rd w FA fl) (hto:Rd w T tl) (hv:View w b hr ns) (hok:wk ns) (hsm:Small ns):
 Calls Tryz.prog 125 #[.pointer (some ⟨b,0,none⟩),.slice FA fl.length Fc,.slice T tl.length Tc] w (lO w (yd fl tl ns)):=by
 have HV:=ah hv;have HO:=ah hok;have HT:=ah hto;have HF:=ah hf;have HS:=ah hsm;clear hv hok hto hf hsm;have HQ:Hid (Value.agg (gg b (ahead (cQ fl) ns) 0) = .agg #[.pointer (some ⟨au b (ahead (cQ fl) ns) 0,0,none⟩),.pointer (some ⟨au b (ahead (cQ fl) ns) 1,0,none⟩),.pointer (some ⟨au b (ahead (cQ fl) ns) 2,0,none⟩),.pointer (some ⟨au b (ahead (cQ fl) ns) 3,0,none⟩),.pointer (some ⟨au b (ahead (cQ fl) ns) 4,0,none⟩),.pointer (some ⟨au b (ahead (cQ fl) ns) 5,0,none⟩),.pointer (some ⟨au b (ahead (cQ fl) ns) 6,0,none⟩),.pointer (some ⟨au b (ahead (cQ fl) ns) 7,0,none⟩)]):=rfl;have hix:=qO;go_enter Tryz.func125, Tryz.ntmps125;go_wp2_with (first
  | (go_at_call 108;refine(mi b hr ns ⟨(FA,Fc,fl),(none,0,[]),9223372036854775807,false⟩ _ HV.o HO.o ⟨HF.o,Rd.nil _ _⟩).mono ?_;rintro x w2 ⟨rfl,k2⟩;rw[show (⟨(FA,Fc,fl),(none,0,[]),9223372036854775807,false⟩:En).ak=cQ fl from rfl,HQ.o];have HK:=ah k2;obtain⟨R,h',hlt,q0,q1⟩:=(HV.o.new k2).last HO.o (bD (cQ fl) ns) (i:=0) (by omega);clear k2)
  | (go_at_call 154;refine(pD T Tc tl b hr ns (ahead (cQ fl) ns) (behind (cQ fl) ns) 0 _ (HT.o.new HK.o) (HV.o.new HK.o) HO.o HS.o (bD _ _) (by omega)).mono ?_;rintro x w3 ⟨es,A,c,rfl,he,hs⟩;have HE:=ah he;have HS3:=ah (Sat.iO HK.o hs);clear he hs))
 go_ret;exact⟨es,A,c,rfl,HE.o,HS3.o⟩
theorem Gw {ns:List Nd} {N:Nd} {e:aq} {H:Int} (hok:wk ns) (ht:iy e ns=false) (hN:N.e.ak=e) (hv:N.v=N.h) (hh:N.h=eJ H):wk (ahead e ns++N::behind e ns):=by
 have hs:=hok.sort;have e0:=bD e ns;have hmem: ∀ n,n ∈ ahead e ns\/n ∈ behind e ns->n ∈ ns:=fun n hn=>by rw[e0];exact List.mem_append.2 hn
 have hlt: ∀ n ∈ behind e ns,dE N.e.ak n.e.ak:=by
  intro n hn;rcases Aq N.e.ak n.e.ak with q | q | q
  .exact q
  .exfalso;rw[hN] at q
   cases hb:behind e ns with
   | nil=>rw[hb] at hn;simp at hn
   | cons m s=>
    rw[hb] at hn;rw[e0,hb,List.pairwise_append,List.pairwise_cons] at hs;rcases List.mem_cons.1 hn with z | hn
    .subst z;exact kP hb q
    .exact kP hb (jf (hs.2.1.1 n hn) q)
  .exfalso;have:iy e ns=true:=(BB hok).2 ⟨n,hmem n (.inr hn),by rw[<-hN];exact q.symm⟩;rw[ht] at this;cases this
 refine⟨fun n hn=>?_,?_⟩
 .rcases List.mem_append.1 hn with hn | hn
  .exact hok.full n (hmem n (.inl hn))
  .rcases List.mem_cons.1 hn with hn | hn
   .subst hn;refine⟨hv,?_,?_⟩<;>rw[hh]<;>unfold eJ<;>omega
   .exact hok.full n (hmem n (.inr hn))
 .rw[e0,List.pairwise_append] at hs;rw[List.pairwise_append,List.pairwise_cons];refine⟨hs.1,⟨hlt,hs.2.1⟩,fun a ha c hc=>?_⟩;rcases List.mem_cons.1 hc with hc | hc
  .subst hc;rw[hN];exact(ja ha).2
  .exact hs.2.2 a ha c hc
theorem eH (a b:du) (w:World) (ha:Rd w a.1 a.2.2) (hb:Rd w b.1 b.2.2):
 Calls Tryz.prog 126 #[.slice a.1 a.2.2.length a.2.1,.slice b.1 b.2.2.length b.2.1] w fun e w'=>e = .returned (.bool (decide (a.2.2=b.2.2)))/\w'=w:=by
 obtain⟨SA,SB,B,e1,e2,e3,e4⟩:=oU a.2.2 b.2.2;have s1:=dy ha a.2.1;have s2:=dy hb b.2.1;rw[<-e1] at s1;rw[<-e2] at s2;rw[<-e4];clear ha hb e1 e2 e4;go_enter Tryz.func126, Tryz.ntmps126;go_wp2;go_ret;exact⟨rfl,rfl⟩
def cO (key:List UInt8) (seq:Int):aq:=⟨key,[],seq,false⟩
def yR (key:List UInt8) (seq:Int) (ns:List Nd):Option aq:=match behind (cO key seq) ns with
 | m::_=>if m.e.key.2.2=key then some m.e.ak else none
 | []=>none
def Ln:aq:=⟨[],[],0,false⟩
def KB (w:World) (q:Option aq) (x:Ending) (w':World):Prop:= ∃ g:En,x = .returned (.tuple #[iN g,.bool q.isSome])/\g.ak=q.getD Ln/\Sat w (aT [g]) w'
theorem results_cell_tmp {P:Program} {fn:Func} {p q:Tmp} {ty:TypeId} (h:fn.results = #[.cell p ty,.tmp q]) (tmps:Array Value) (w:World) (g:Nat) (t:TypeId) (cs:Array Value) (fr:Nat × Nat) (d:TypeDesc) (v:Value)
 (hp:tmps.getD p undef = .pointer (some ⟨g,0,none⟩)) (hq:tmps.getD q undef=v) (hg:w.heap[g]?=some (.cells cs t fr))
 (hu:P.underlying ty=some d) (hd:(match d with | .struct _ | .array _ _=>true | _=>false)=true) (hi:(P.info? ty).map (·.size)=some cs.size):
 (results fn tmps).run P w = .ok (.tuple #[.agg cs,v]) w:=by
 have hp':tmps[p]?.getD undef = .pointer (some ⟨g,0,none⟩):=by simpa using hp
 have hq':tmps[q]?.getD undef=v:=by simpa using hq
 simp[results,h,hp',hq',asAddr,run_loadVar_row w g t ty cs fr d hg hu hd hi]
theorem Gg (K:du) (seq:Int) (b hr:Nat) (ns:List Nd) (w:World) (hk:Rd w K.1 K.2.2) (hv:View w b hr ns) (hok:wk ns) (hsm:Small ns):
 Calls Tryz.prog 127 #[.pointer (some ⟨b,0,none⟩),.slice K.1 K.2.2.length K.2.1,.int .i64 seq] w (KB w (yR K.2.2 seq ns)):=by
 have HV:=ah hv;have HO:=ah hok;have HK:=ah hk;have HS:=ah hsm;have h1:=(Sat.start w).bO (b:=w.heap.size) 120 #[.slice none 0 0,.slice none 0 0,.int .i64 0,.bool false] rfl;have c1:ao No w (w.alloc (.cells #[.slice none 0 0,.slice none 0 0,.int .i64 0,.bool false] 120)):=(ao.refl No w).alloc _;have HC1:=ah c1;have HS1:=ah h1;clear hv hok hk hsm h1 c1;have HQ:Hid (Value.agg (gg b (ahead (cO K.2.2 seq) ns) 0) = .agg #[.pointer (some ⟨au b (ahead (cO K.2.2 seq) ns) 0,0,none⟩),.pointer (some ⟨au b (ahead (cO K.2.2 seq) ns) 1,0,none⟩),.pointer (some ⟨au b (ahead (cO K.2.2 seq) ns) 2,0,none⟩),.pointer (some ⟨au b (ahead (cO K.2.2 seq) ns) 3,0,none⟩),.pointer (some ⟨au b (ahead (cO K.2.2 seq) ns) 4,0,none⟩),.pointer (some ⟨au b (ahead (cO K.2.2 seq) ns) 5,0,none⟩),.pointer (some ⟨au b (ahead (cO K.2.2 seq) ns) 6,0,none⟩),.pointer (some ⟨au b (ahead (cO K.2.2 seq) ns) 7,0,none⟩)]):=rfl;have hix:=qO;go_enter Tryz.func127, Tryz.ntmps127;go_upto_region 2 with (go_at_call 108;refine(mi b hr ns ⟨K,(none,0,[]),seq,false⟩ _ (HV.o.new HC1.o) HO.o ⟨HK.o.new HC1.o,Rd.nil _ _⟩).mono ?_;rintro x w2 ⟨rfl,k2⟩;rw[show (⟨K,(none,0,[]),seq,false⟩:En).ak=cO K.2.2 seq from rfl,HQ.o];have HK2:=ah (HC1.o.tr k2);have HS2:=ah (HS1.o.new k2);obtain⟨R,h',hlt,q0,q1⟩:=(HV.o.new HK2.o).last HO.o (bD (cO K.2.2 seq) ns) (i:=0) (by omega);clear k2)
 have HV2:=ah (HV.o.new HK2.o);have HG:Hid (yR K.2.2 seq ns=match behind (cO K.2.2 seq) ns with
  | m::_=>if m.e.key.2.2=K.2.2 then some m.e.ak else none
  | []=>none):=rfl
 generalize w.heap.size=O at*
 rcases jg (behind (cO K.2.2 seq) ns) 0 with ⟨e1,hlow⟩ | ⟨u,m,t,e2,e1,hm,hu⟩
 .have hnil:behind (cO K.2.2 seq) ns=[]:=by
   cases hb:behind (cO K.2.2 seq) ns with
   | nil=>rfl
   | cons m s=>
    have h1:=hlow m (by rw[hb];simp);have h2:=HO.o.full m (by rw[bD (cO K.2.2 seq) ns,hb];simp);omega
  have HT:Hid (yR K.2.2 seq ns=none):=by unfold Hid;rw[HG.o,hnil]
  have e3:dM (cS de (behind (cO K.2.2 seq) ns) 0) = .pointer none:=by rw[e1];rfl
  rw[e3];have c0:=HS2.o.cell 0;have c1:=HS2.o.cell 1;have c2:=HS2.o.cell 2;have c3:=HS2.o.cell 3;have f0:=HS2.o.frozen 0;have f1:=HS2.o.frozen 1;have f2:=HS2.o.frozen 2;have f3:=HS2.o.frozen 3;have h6:=(((HS2.o.set 0 (.slice none 0 0)).set 1 (.slice none 0 0)).set 2 (.int .i64 0)).set 3 (.bool false);clear e1 e3 hlow hnil q0 q1;go_wp2_with fail;revert h6;generalize World.setCell _ _ _=w4;intro h6;refine bodyPost_ret (results_cell_tmp (p:=6) (q:=7) (by kernel_rfl) _ _ O 120 _ (0,0) _ _ rfl rfl h6.at Tryz.underlying120 rfl (by kernel_rfl)) rfl ?_;rw[HT.o];refine⟨⟨(none,0,[]),(none,0,[]),0,false⟩,rfl,rfl,?_⟩;exact((h6.right.aN 5 1).aN 5 1)
 .have hu0:u=[]:=by
   cases hb:u with
   | nil=>rfl
   | cons x s=>
    have h1:=hu x (by rw[hb];simp);have h2:=HO.o.full x (by rw[bD (cO K.2.2 seq) ns,e2,hb];simp);omega
  subst hu0;rw[List.nil_append] at e2;have hgm:yR K.2.2 seq ns=if m.e.key.2.2=K.2.2 then some m.e.ak else none:=by rw[HG.o,e2]
  have e3:dM (cS de (behind (cO K.2.2 seq) ns) 0) = .pointer (some ⟨m.a,0,none⟩):=by rw[e1];rfl
  rw[e3];obtain⟨n0,n1,n2,n3,n4,n5,n6⟩:=HV2.o.node (ahead (cO K.2.2 seq) ns) m t (by rw[<-e2];exact bD _ _);have hml:=HS.o.each m (by rw[bD (cO K.2.2 seq) ns,e2];simp);have hk2:m.e.key.2.2.length<=140737488355328:=by omega
  have hv2:m.e.value.2.2.length<=140737488355328:=by omega
  unfold aJ at n1 n2;have HN:=ah n6;clear e1 e3 hm hu n5 n6 n0 e2 q0 q1 hml;by_cases hkk:m.e.key.2.2=K.2.2
  .rw[if_pos hkk] at hgm;have HT:=ah hgm;have HB:Hid (decide (m.e.key.2.2=K.2.2)=true):=by simpa [Hid] using hkk
   clear hgm hkk;go_wp2_with (first
    | (go_at_call 126;refine(eH m.e.key K _ HN.o.1 (HK.o.new HK2.o)).mono ?_;rintro x wx ⟨rfl,rfl⟩;rw[HB.o])
    | (go_at_call 110;refine(jF m.e w _ _ HS2.o HN.o hk2 hv2).mono ?_;rintro x w6 ⟨⟨A2,c2,B2,d2,rfl,hs6⟩,k6⟩;have z0:=hs6.bp.cell 0;have z1:=hs6.bp.cell 1;have z2:=hs6.bp.cell 2;have z3:=hs6.bp.cell 3;have f0:=hs6.bp.frozen 0;have f1:=hs6.bp.frozen 1;have f2:=hs6.bp.frozen 2;have f3:=hs6.bp.frozen 3;have h9:=(((hs6.bp.set 0 (.slice A2 m.e.key.2.2.length c2)).set 1 (.slice B2 m.e.value.2.2.length d2)).set 2 (.int .i64 m.e.seq)).set 3 (.bool m.e.dead);have HS9:=ah h9;clear hs6 k6 h9;simp only[iN]))
   have h9:=HS9.o;revert h9;generalize World.setCell _ _ _=w4;intro h9;refine bodyPost_ret (results_cell_tmp (p:=6) (q:=7) (by kernel_rfl) _ _ O 120 _ (0,0) _ _ rfl rfl h9.at Tryz.underlying120 rfl (by kernel_rfl)) rfl ?_;rw[HT.o];exact⟨⟨(A2,c2,m.e.key.2.2),(B2,d2,m.e.value.2.2),m.e.seq,m.e.dead⟩,rfl,rfl,h9.right⟩
  .rw[if_neg hkk] at hgm;have HT:=ah hgm;have HB:Hid (decide (m.e.key.2.2=K.2.2)=false):=by simpa [Hid] using hkk
   clear hgm hkk;have c0:=HS2.o.cell 0;have c1:=HS2.o.cell 1;have c2:=HS2.o.cell 2;have c3:=HS2.o.cell 3;have f0:=HS2.o.frozen 0;have f1:=HS2.o.frozen 1;have f2:=HS2.o.frozen 2;have f3:=HS2.o.frozen 3;have h6:=(((HS2.o.set 0 (.slice none 0 0)).set 1 (.slice none 0 0)).set 2 (.int .i64 0)).set 3 (.bool false);have HS6:=ah h6;clear h6;go_wp2_with (first
    | (go_at_call 126;refine(eH m.e.key K _ HN.o.1 (HK.o.new HK2.o)).mono ?_;rintro x wx ⟨rfl,rfl⟩;rw[HB.o]))
   have h6:=HS6.o;revert h6;generalize World.setCell _ _ _=w4;intro h6;refine bodyPost_ret (results_cell_tmp (p:=6) (q:=7) (by kernel_rfl) _ _ O 120 _ (0,0) _ _ rfl rfl h6.at Tryz.underlying120 rfl (by kernel_rfl)) rfl ?_;rw[HT.o];refine⟨⟨(none,0,[]),(none,0,[]),0,false⟩,rfl,rfl,?_⟩;exact((h6.right.aN 5 1).aN 5 1)
def bJ:List UInt8->List UInt8->Nat
 | a::l,b::m=>if a=b then bJ l m+1 else 0
 | _,_=>0
theorem mh: ∀ a b:List UInt8,bJ a b<=a.length/\bJ a b<=b.length
 | [],b=>by simp[bJ]
 | a::l,[]=>by simp[bJ]
 | a::l,b::m=>by
  have:=mh l m;unfold bJ;split<;>simp<;>omega
theorem mN: ∀ a b:List UInt8,a.take (bJ a b)=b.take (bJ a b)
 | [],b=>by simp[bJ]
 | a::l,[]=>by simp[bJ]
 | a::l,b::m=>by
  have:=mN l m;unfold bJ;split
  .rename_i h;rw[List.take_succ_cons,List.take_succ_cons,this,h]
  .simp
theorem jD: ∀ {a b:List UInt8} {n:Nat},n<=a.length->n<=b.length->(∀ j (h:j<a.length) (h':j<b.length),j<n->a[j]=b[j])->(∀ (h:n<a.length) (h':n<b.length),a[n]≠b[n])->bJ a b=n
 | [],b,n,h1,_,_,_=>by simp at h1;simp[bJ,h1]
 | a::l,[],n,_,h2,_,_=>by simp at h2;simp[bJ,h2]
 | a::l,b::m,0,_,_,_,h4=>by
  have:=h4 (by simp) (by simp);unfold bJ;rw[if_neg (by simpa using this)]
 | a::l,b::m,n+1,h1,h2,h3,h4=>by
  have h0:=h3 0 (by simp) (by simp) (by omega);unfold bJ;rw[if_pos (by simpa using h0),jD (n:=n) (by simpa using h1) (by simpa using h2) (fun j h h' hj=>by
   have:=h3 (j+1) (by simp;omega) (by simp;omega) (by omega);simpa using this) (fun h h'=>by
   have:=h4 (by simp;omega) (by simp;omega);simpa using this)]
def fU (e:aq):Bool:=decide (e.key.length<=128) && (decide (e.value.length<=16384) && ((!e.dead || decide (e.value.length=0)) && decide (0<=e.seq)))
def jI (ahead:List UInt8) (e:aq):List UInt8:=
 [UInt8.ofNat (bJ ahead e.key),UInt8.ofNat (e.key.length - bJ ahead e.key)]++(ai e.seq.toNat 8++([if e.dead then 1 else 0]++(ai e.value.length 2++(e.key.drop (bJ ahead e.key)++e.value))))
def kM (L:List aq) (i:Nat):List UInt8:=if i % 8=0 then [] else match L[i - 1]? with | some e=>e.key | none=>[]
def jR (L:List aq) (i:Nat):List UInt8:=match L[i]? with | some e=>jI (kM L i) e | none=>[]
def dI:List UInt8:=[84,68,84,49]
def da (L:List aq) (k:Nat):List UInt8:=dI++ai L.length 4++((List.range k).map (jR L)).flatten
def lI (L:List aq) (i:Nat):List UInt8:=if i % 8=0 then ai (da L i).length 4++([UInt8.ofNat ((L[i]?.map (·.key.length)).getD 0)]++(L[i]?.map (·.key)).getD []) else []
def fh (L:List aq) (k:Nat):List UInt8:=ai ((L.length+7) / 8) 4++((List.range k).map (lI L)).flatten
def cT (L:List aq):Nat->List (List UInt8)
 | 0=>[]
 | k+1=>match L[k]? with
  | none=>cT L k
  | some e=>if k=0 then cT L k++[e.key] else match L[k - 1]? with
   | some d=>if d.key=e.key then cT L k else cT L k++[e.key]
   | none=>cT L k++[e.key]
def hU (L:List aq):List UInt8:=iE (List.replicate (dF (cT L L.length).length 10) 0) (cT L L.length)
def BN (L:List aq):List UInt8:=
 let b:=da L L.length;let c:=b++fh L L.length
 c++ai (hU L).length 4++hU L++ai b.length 4++ai c.length 4
def aM (L:List aq):List UInt8:=BN L++ai (tN (BN L)) 4
def bR (L:List aq):Nat:=if dH L=false then 70 else if 65536<L.length\/L.any (fun e=> !fU e) then 71 else 0
theorem jP (L:List aq) (k:Nat):da L (k+1)=da L k++jR L k:=by
 unfold da;rw[List.range_succ,List.map_append,List.flatten_append,List.append_assoc];simp
theorem lk (L:List aq) (k:Nat):fh L (k+1)=fh L k++lI L k:=by
 unfold fh;rw[List.range_succ,List.map_append,List.flatten_append,List.append_assoc];simp
theorem FU (n:Nat) (hn:n<9223372036854775808) (w0 w:World) (F:SP) (h:Sat w0 F w):Calls Tryz.prog 178 #[.int .i64 (n:Int)] w (xz w0 F (ai n 4)):=by
 have H:=ah h;clear h;have hw:IntKind.u64.wrap (n:Int)=n:=by rw[IntKind.wrap_u64];omega
 go_enter Tryz.func178, Tryz.ntmps178;go_wp2_with (go_at_call 117;refine(bS n 4 (by omega) (by omega) (by omega) w0 _ F H.o).mono ?_;rintro x w1 ⟨A,c,rfl,h1,h2,hs⟩;have H1:=ah h1;have H2:=ah h2;have HS:=ah hs;clear h1 h2 hs);go_ret;exact⟨A,c,rfl,H1.o,H2.o,HS.o⟩
theorem yI (a b:du) (w:World) (ha:Rd w a.1 a.2.2) (hb:Rd w b.1 b.2.2) (hl:a.2.2.length<=1000000):
 Calls Tryz.prog 197 #[.slice a.1 a.2.2.length a.2.1,.slice b.1 b.2.2.length b.2.1] w fun x w'=>x = .returned (.int .i64 (bJ a.2.2 b.2.2:Nat))/\ao No w w':=by
 obtain⟨A,c,l⟩:=a;obtain⟨B,d,m⟩:=b;have HA:Hid (Rd w A l):=ha;have HB:Hid (Rd w B m):=hb;have hl:l.length<=1000000:=hl;clear ha hb;show Calls Tryz.prog 197 #[.slice A l.length c,.slice B m.length d] w fun x w'=>x = .returned (.int .i64 (bJ l m:Nat))/\ao No w w'
 go_enter Tryz.func197, Tryz.ntmps197;go_wp2_with fail;go_loopw [5] (fun iv wr=> ∃ n:Nat,n<=l.length/\n<=m.length/\iv = .int .i64 n/\Hid ((∀ j (h:j<l.length) (h':j<m.length),j<n->l[j]=m[j])/\ao No w wr)) (fun iv _=>l.length - (intOf iv).toNat)
 case atStart=>exact⟨0,by omega,by omega,rfl,fun j _ _ h=>by omega,ao.refl _ _⟩
 case round=>
  obtain⟨n,hn1,hn2,rfl,HD⟩:=hrel;by_cases h1:n<l.length
  .by_cases h2:n<m.length
   .obtain⟨b1,o1,rfl,c1⟩:=(HA.o.new HD.o.2).get h1;obtain⟨b2,o2,rfl,c2⟩:=(HB.o.new HD.o.2).get h2;by_cases h3:l[n]=m[n]
    .have HN:Hid (∀ j (h:j<l.length) (h':j<m.length),j<n+1->l[j]=m[j]):=fun j h h' hj=>by
      by_cases e:j=n
      .subst e;exact h3
      .exact HD.o.1 j h h' (by omega)
     rw[h3] at c1;clear h3;go_wp2_with fail;go_quiet (fail)
     go_wp2_with fail;go_roundw
     .exact⟨n+1,by omega,by omega,by push_cast;rfl,HN.o,HD.o.2.drewN _⟩
     .simp[intOf];omega
    .have h4:((l[n].toNat:Int)==(m[n].toNat:Int))=false:=by
      rw[beq_eq_false_iff_ne];intro e;exact h3 (UInt8.toNat.inj (by omega))
     have HE:Hid (bJ l m=n):=jD hn1 hn2 HD.o.1 (fun _ _=>h3);clear h3;go_wp2_with fail;go_quiet (fail)
     go_wp2_with fail;go_ret;exact⟨by rw[HE.o];rfl,HD.o.2.drewN _⟩
   .have HE:Hid (bJ l m=n):=jD hn1 hn2 HD.o.1 (fun _ h=>absurd h h2);go_wp2_with fail;go_quiet (fail)
    go_wp2_with fail;go_ret;exact⟨by rw[HE.o];rfl,HD.o.2.drewN _⟩
  .have HE:Hid (bJ l m=n):=jD hn1 hn2 HD.o.1 (fun h=>absurd h h1);go_wp2_with fail;go_quiet (fail)
   go_wp2_with fail;go_ret;exact⟨by rw[HE.o];rfl,HD.o.2.drewN _⟩
theorem EH (e:En) (w:World) (hk:e.key.2.2.length<=140737488355328) (hv:e.value.2.2.length<=140737488355328):
 Calls Tryz.prog 177 #[iN e] w fun x w'=>x = .returned (.bool (fU e.ak))/\ao No w w':=by
 obtain⟨⟨kA,kc,k⟩,⟨vA,vc,v⟩,seq,dead⟩:=e;have hk:k.length<=140737488355328:=hk;have hv:v.length<=140737488355328:=hv;have hs:=(Sat.start w).ab 120 #[.slice kA k.length kc,.slice vA v.length vc,.int .i64 seq,.bool dead];have c0:=hs.cell 0;have c1:=hs.cell 1;have c2:=hs.cell 2;have c3:=hs.cell 3;have HS:=ah hs;have HM:Hid (fU ⟨k,v,seq,dead⟩=(decide (k.length<=128) && (decide (v.length<=16384) && ((!dead || decide (v.length=0)) && decide (0<=seq))))):=rfl;unfold iN;show Calls Tryz.prog _ _ w fun x w'=>x = .returned (.bool (fU ⟨k,v,seq,dead⟩))/\ao No w w'
 clear hs;by_cases h1:k.length<=128
 .have q1:=decide_eq_true h1;have i1:(k.length:Int)<=128:=by omega
  by_cases h2:v.length<=16384
  .have q2:=decide_eq_true h2;have i2:(v.length:Int)<=16384:=by omega
   by_cases h3:0<=seq
   .have q3:=decide_eq_true h3;by_cases h4:v.length=0
    .have q4:=decide_eq_true h4;have HE:Hid (fU ⟨k,v,seq,dead⟩=true):=by unfold Hid;rw[HM.o,q1,q2,q3,q4];cases dead<;>rfl
     have i4:((v.length:Int)==0)=true:=by rw[h4];rfl
     clear q1 q2 q3 q4 h4
     cases dead<;>
     .go_enter Tryz.func177, Tryz.ntmps177;go_wp2_with fail;go_ret;exact⟨by rw[HE.o];rfl,HS.o.aL⟩
    .have q4:=decide_eq_false h4;have i4:((v.length:Int)==0)=false:=by rw[beq_eq_false_iff_ne];omega
     cases dead
     .have HE:Hid (fU ⟨k,v,seq,false⟩=true):=by unfold Hid;rw[HM.o,q1,q2,q3,q4];rfl
      clear q1 q2 q3 q4 h4;go_enter Tryz.func177, Tryz.ntmps177;go_wp2_with fail;go_ret;exact⟨by rw[HE.o];rfl,HS.o.aL⟩
     .have HE:Hid (fU ⟨k,v,seq,true⟩=false):=by unfold Hid;rw[HM.o,q1,q2,q3,q4];rfl
      clear q1 q2 q3 q4 h4;go_enter Tryz.func177, Tryz.ntmps177;go_wp2_with fail;go_ret;exact⟨by rw[HE.o];rfl,HS.o.aL⟩
   .have q3:=decide_eq_false h3;have HE:Hid (fU ⟨k,v,seq,dead⟩=false):=by unfold Hid;rw[HM.o,q1,q2,q3];simp
    by_cases h4:v.length=0
    .have i4:((v.length:Int)==0)=true:=by rw[h4];rfl
     clear q1 q2 q3 h4
     cases dead<;>
     .go_enter Tryz.func177, Tryz.ntmps177;go_wp2_with fail;go_ret;exact⟨by rw[HE.o];rfl,HS.o.aL⟩
    .have i4:((v.length:Int)==0)=false:=by rw[beq_eq_false_iff_ne];omega
     clear q1 q2 q3 h4
     cases dead<;>
     .go_enter Tryz.func177, Tryz.ntmps177;go_wp2_with fail;go_ret;exact⟨by rw[HE.o];rfl,HS.o.aL⟩
  .have q2:=decide_eq_false h2;have i2:¬ (v.length:Int)<=16384:=by omega
   have HE:Hid (fU ⟨k,v,seq,dead⟩=false):=by unfold Hid;rw[HM.o,q1,q2];rfl
   clear q1 q2;go_enter Tryz.func177, Tryz.ntmps177;go_wp2_with fail;go_ret;exact⟨by rw[HE.o];rfl,HS.o.aL⟩
 .have q1:=decide_eq_false h1;have i1:¬ (k.length:Int)<=128:=by omega
  have HE:Hid (fU ⟨k,v,seq,dead⟩=false):=by unfold Hid;rw[HM.o,q1];rfl
  clear q1;go_enter Tryz.func177, Tryz.ntmps177;go_wp2_with fail;go_ret;exact⟨by rw[HE.o];rfl,HS.o.aL⟩
def cm (n:Nat) (q:List UInt8) (s:Bool):List UInt8 × List UInt8 × Bool:=if s=true\/q.length<n then (List.replicate (min n 8) 0,q,true) else (q.take n,q.drop n,false)
theorem oA {n:Nat} {q:List UInt8} {s:Bool} (h:s=true\/q.length<n):cm n q s=(List.replicate (min n 8) 0,q,true):=if_pos h
theorem xF {n:Nat} {q:List UInt8} (h:n<=q.length):cm n q false=(q.take n,q.drop n,false):=by
 unfold cm;rw[if_neg (by simp;omega)]
def uJ (w0:World) (R:Nat) (F:SP) (q:List UInt8) (s:Bool) (w:World):Prop:= ∃ A c,Sat w0 (Pt R 223 #[.slice A q.length c,.bool s]*F) w/\Rd w0 A q/\q.length<=c/\c<=maxLen
theorem qD (n:Nat) (hn:n<=8) (W:World):(Instr.makeSlice 41 (.int .i64 (n:Int)) (.int .i64 (n:Int))).run Tryz.prog W=
 .ok (.slice (some ⟨W.heap.size,0,none⟩) n n) (W.alloc (.cells (madeCells #[.int .u8 0] n) 5)):=by
 obtain⟨i0,hi,hz0,hz1,hz2⟩:=info_parts kq;have hr:=run_make (P:= Tryz.prog) W 41 5 i0 _ Tryz.underlying41 hi hz0 .i64 .i64 n n (by omega) (by omega) (by rw[hz2];omega) (by omega);have hc:(Value.int .u8 0).cells = #[.int .u8 0]:=rfl;simpa [hz1,hc] using hr
def Ji (w0:World) (R:Nat) (F:SP) (p:List UInt8 × List UInt8 × Bool) (e:Ending) (w':World):Prop:=
 ∃ B d,e = .returned (.slice B p.1.length d)/\Rd w' B p.1/\(p.2.2=false->Rd w0 B p.1)/\p.1.length<=d/\d<=maxLen/\uJ w0 R F p.2.1 p.2.2 w'
theorem kG (n:Nat) (hn:n<=65536) (R:Nat) (F:SP) (q:List UInt8) (s:Bool) (w0 w:World) (h:uJ w0 R F q s w) (hql:q.length<=140737488355328):
 Calls Tryz.prog 139 #[.pointer (some ⟨R,0,none⟩),.int .i64 (n:Int)] w (Ji w0 R F (cm n q s)):=by
 obtain⟨A,c,hs,hr,hc,hm⟩:=h;have c0:=hs.cell 0;have c1:=hs.cell 1;have f0:=hs.frozen 0;have f1:=hs.frozen 1;have HS:=ah hs;have HR:=ah hr;unfold maxLen at hm;clear hs hr;by_cases hsh:s=true\/q.length<n
 .have HT:=ah (oA hsh);have hmin:min (n:Int) 8=((min n 8:Nat):Int):=by omega
  obtain⟨k,hk⟩: ∃ k,min n 8=k:=⟨_,rfl⟩;have hk8:k<=8:=by omega
  have hmk:=qD k hk8;rw[HT.o,hk];rw[hk] at hmin;have HK:=ah hk;clear hk;have HD:Hid (∀ W,Sat w0 (Pt R 223 #[.slice A q.length c,.bool true]*F) W->Ji w0 R F (List.replicate k 0,q,true) (.returned (.slice (some ⟨W.heap.size,0,none⟩) k k)) (W.alloc (.cells (madeCells #[.int .u8 0] k) 5))):=fun W hW=>
   ⟨some ⟨W.heap.size,0,none⟩,k,by simp,by
    have h0:=aF.lit W (madeCells #[.int .u8 0] k) 5 (0,0);have e:(madeCells #[.int .u8 0] k).toList=(List.replicate k (0:UInt8)).map bv:=by
     rw[List.map_replicate];simp[madeCells,bv,Nat.mod_one,List.map_const']
    rw[e] at h0;exact h0,by simp,by simp,by unfold maxLen;omega,A,c,hW.aD _,HR.o,hc,by unfold maxLen;omega⟩
  have HTr:=HD;rcases Nat.lt_or_ge 8 n with h8 | h8
  case' inr=>
   have hkn:k=n:=by have:=HK.o;omega
   subst hkn;have hmz:=hmk;have hmi:¬ (8:Int)<k:=by omega
  case' inl=>
   have hkn:k=8:=by have:=HK.o;omega
   subst hkn;have hmz: ∀ W:World,(Instr.makeSlice 41 (.int .i64 8) (.int .i64 8)).run Tryz.prog W = .ok (.slice (some ⟨W.heap.size,0,none⟩) 8 8) (W.alloc (.cells (madeCells #[.int .u8 0] 8) 5)):=qD 8 (by omega);have hmi:(8:Int)<n:=by omega
  all_goals
   clear hmk hmin HK
   cases s
   case true=>
    go_enter Tryz.func139, Tryz.ntmps139;go_wp2_with fail;go_ret;have h9:=HD.o _ (HS.o.set 1 (.bool true));rw[show (w.setCell ⟨R,1,none⟩ (.bool true)).heap.size=w.heap.size by simp] at h9;exact h9
   case false=>
    have hlt:=hsh.resolve_left (by decide);go_enter Tryz.func139, Tryz.ntmps139;go_wp2_with fail;go_ret;have h9:=HD.o _ (HS.o.set 1 (.bool true));rw[show (w.setCell ⟨R,1,none⟩ (.bool true)).heap.size=w.heap.size by simp] at h9;exact h9
 .have hs:s=false:=by cases s;rfl;simp at hsh
  subst hs;have hle:n<=q.length:=by simp at hsh;omega
  have hlt:¬ (q.length:Int)<n:=by omega
  have hlt2:(n:Int)<=q.length:=by omega
  have HT:=ah (xF hle);rw[HT.o];have HD:Hid (∀ W A' c' cx,A'=(if c=n then A else A.map (·.add n))->c'=c - n->cx=c->Sat w0 (Pt R 223 #[.slice A' (q.drop n).length c',.bool false]*F) W->Ji w0 R F (q.take n,q.drop n,false) (.returned (.slice A (q.take n).length cx)) W):=fun W A' c' cx e1 e2 e3 hW=>by
   subst e1 e2 e3;exact⟨A,cx,rfl,(HR.o.take n).new hW.aL,fun _=>HR.o.take n,by simp;omega,by unfold maxLen;omega,_,_,hW,HR.o.drop hle hc,by simp;omega,by unfold maxLen;omega⟩
  rw[show (q.take n).length=n by simp;omega,show (q.drop n).length=q.length - n by simp] at HD;clear hsh;go_enter Tryz.func139, Tryz.ntmps139;go_wp2_with fail
  all_goals
   go_ret;first
    | exact HD.o _ _ _ _ (by rw[if_pos ‹c=n›]) (by omega) (by omega) (HS.o.set 0 _)
    | exact HD.o _ _ _ _ (by rw[if_neg ‹¬ c=n›]) (by omega) (by omega) (HS.o.set 0 _)
end Go.Proofs.YtmbaiglpgaoogaaGreat
