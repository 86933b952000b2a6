/- Joined, as they were built one by one: Skip2 Skip3 Skip4 Skip5 Skip6 Skip7 NokPut MemGet TabFns. -/
import Derived.Test.YtmbaiglpgaoogaaGreatS02
import Derived.Test.YtmbaiglpgaoogaaGreatS04
import Derived.Test.YtmbaiglpgaoogaaGreatS05
namespace Go.Proofs.YtmbaiglpgaoogaaGreat
open Go.RowKit
set_option linter.unusedVariables false
set_option maxRecDepth 100000
abbrev enC (e:En):Array Value:= #[.slice e.key.1 e.key.2.2.length e.key.2.1,.slice e.value.1 e.value.2.2.length e.value.2.1,.int .i64 e.seq,.bool e.dead]
theorem outC_get (b:Nat) (ps:List Nd) (k:Nat) {j:Nat} (hj:j<8):(outC b ps k)[j]?=some (if k≤j then ptrN (some (lastAt b ps j)) else ptrN none):=by unfold outC;simp[hj]
structure Bst (w:World) (b:Nat) (ns:List Nd) (e:En) (E B O V:Nat) (k:Nat) (p s:List Nd) (A R h:Nat) (wr:World):Prop where
 plc:Plc w b ns e.ent k p s A R h
 k8:k≤8
 sat:Sat w (Pt O 181 (outC b (ahead e.ent ns) V)*(Pt B 181 (outC b [] 8)*(Pt E 120 (enC e)*Emp))) wr
set_option maxHeartbeats 2000000 in
theorem before_any (b hr:Nat) (ns:List Nd) (e:En) (w:World) (hv:View w b hr ns) (hok:NOk ns) (he:EnR w e):
  Calls Tryz.prog 108 #[.pointer (some ⟨b,0,none⟩),enA e] w fun x w'=>x = .returned (.agg (outC b (ahead e.ent ns) 0))∧Chg No w w':=by
 have HV:=ah hv;have HE:=ah he;have HO:=ah hok;have HEA:Hid (∀ e:En,enA e = .agg #[.slice e.key.1 e.key.2.2.length e.key.2.1,.slice e.value.1 e.value.2.2.length e.value.2.1,.int .i64 e.seq,.bool e.dead]):=fun _=>rfl
 rw[HEA.out];clear hv he hok;go_enter Tryz.func108, Tryz.ntmps108;go_wp2_with fail;have s1:=(Sat.start w).allocAt (b:=w.heap.size) 120 (enC e) rfl;have s2:=s1.allocAt (b:=w.heap.size+1) 181 (outC b [] 8) (by simp);have s3:=s2.allocAt (b:=w.heap.size+1+1) 181 (outC b (ahead e.ent ns) 8) (by simp);obtain⟨W,hW⟩: ∃ W,W=((w.alloc (.cells (enC e) 120)).alloc (.cells (outC b [] 8) 181)).alloc (.cells (outC b (ahead e.ent ns) 8) 181):=⟨_,rfl⟩;rw[←hW] at s3;have e8: ∀ ps,outC b ps 8 = #[.pointer none,.pointer none,.pointer none,.pointer none,.pointer none,.pointer none,.pointer none,.pointer none]:=fun _=>rfl
 rw[e8,e8] at hW;rw[←hW];generalize w.heap.size=E at*
 obtain⟨O,hO⟩: ∃ O,O=E+1+1:=⟨_,rfl⟩;obtain⟨B,hB⟩: ∃ B,B=E+1:=⟨_,rfl⟩;rw[←hO, ←hB] at s3;rw[←hO, ←hB];have HS:=ah s3;clear s1 s2 s3 hW e8 hO hB;go_loopw [6,7] (fun at' i wr=> ∃ (k A R h:Nat) (p s:List Nd),i = .int .i64 ((k:Int) - 1)∧at' = .pointer (some ⟨A,0,none⟩)∧k≤8∧Hid (Bst w b ns e E B O k k p s A R h wr)) (fun _ i _=>(intOf i+1).toNat)
 case atStart=>exact⟨8,b,hr,8,[],ns,rfl,rfl,by omega,HV.out.plc HO.out _,by omega,HS.out⟩
 case round=>
  obtain⟨k,A,R,h,p,s,rfl,rfl,hk8,HD⟩:=hrel;rcases k with _ | q
  ·have eO: ∀ ps,outC b ps 0 = #[.pointer (some ⟨lastAt b ps 0,0,none⟩),.pointer (some ⟨lastAt b ps 1,0,none⟩),.pointer (some ⟨lastAt b ps 2,0,none⟩),.pointer (some ⟨lastAt b ps 3,0,none⟩),.pointer (some ⟨lastAt b ps 4,0,none⟩),.pointer (some ⟨lastAt b ps 5,0,none⟩),.pointer (some ⟨lastAt b ps 6,0,none⟩),.pointer (some ⟨lastAt b ps 7,0,none⟩)]:=fun _=>rfl
   have hs:=HD.out.sat;have e8:outC b [] 8 = #[.pointer none,.pointer none,.pointer none,.pointer none,.pointer none,.pointer none,.pointer none,.pointer none]:=rfl;rw[eO,e8] at hs;have c0:=hs.cell 0;have c1:=hs.cell 1;have c2:=hs.cell 2;have c3:=hs.cell 3;have c4:=hs.cell 4;have c5:=hs.cell 5;have c6:=hs.cell 6;have c7:=hs.cell 7;have f0:=hs.up2.frozen 0;have f1:=hs.up2.frozen 1;have f2:=hs.up2.frozen 2;have f3:=hs.up2.frozen 3;have f4:=hs.up2.frozen 4;have f5:=hs.up2.frozen 5;have f6:=hs.up2.frozen 6;have f7:=hs.up2.frozen 7;have d0:=hs.up2.cell 0;have d1:=hs.up2.cell 1;have d2:=hs.up2.cell 2;have d3:=hs.up2.cell 3;have d4:=hs.up2.cell 4;have d5:=hs.up2.cell 5;have d6:=hs.up2.cell 6;have d7:=hs.up2.cell 7;have HQ:Hid (Value.agg (outC b (ahead e.ent ns) 0)=_):=congrArg Value.agg (eO _);have HS2:=ah hs;clear hs eO e8;have h9:=(((((((HS2.out.up2.set 0 (.pointer (some ⟨lastAt b (ahead e.ent ns) 0,0,none⟩))).set 1 (.pointer (some ⟨lastAt b (ahead e.ent ns) 1,0,none⟩))).set 2 (.pointer (some ⟨lastAt b (ahead e.ent ns) 2,0,none⟩))).set 3 (.pointer (some ⟨lastAt b (ahead e.ent ns) 3,0,none⟩))).set 4 (.pointer (some ⟨lastAt b (ahead e.ent ns) 4,0,none⟩))).set 5 (.pointer (some ⟨lastAt b (ahead e.ent ns) 5,0,none⟩))).set 6 (.pointer (some ⟨lastAt b (ahead e.ent ns) 6,0,none⟩))).set 7 (.pointer (some ⟨lastAt b (ahead e.ent ns) 7,0,none⟩));go_wp2_with fail;clear c0 c1 c2 c3 c4 c5 c6 c7 f0 f1 f2 f3 f4 f5 f6 f7 d0 d1 d2 d3 d4 d5 d6 d7;revert h9;generalize World.setCell _ _ _=W2;intro h9;refine bodyPost_ret (results_cell_row (p:=4) (by kernel_rfl) _ _ B 181 _ (0,0) _ rfl h9.at Tryz.underlying181 rfl (by kernel_rfl)) rfl ?_;exact⟨by rw[HQ.out];rfl,h9.chg⟩
  ·have HI:Hid (((q+1:Nat):Int) - 1=q):=by unfold Hid;omega
   rw[HI.out];have hh:=HD.out.plc.hk;have q1:=(HD.out.plc.new HD.out.sat.chg).head;have q2:=(HD.out.plc.new HD.out.sat.chg).links q (by omega);have HD0:=HD;clear HD;go_wp2_with fail;clear hh q1 q2;go_loopw [6,8] (fun at' n wr=> ∃ (A R h:Nat) (p s:List Nd),at' = .pointer (some ⟨A,0,none⟩)∧n=ptrN (nxt noT s q)∧Hid (Bst w b ns e E B O (q+1) (q+1) p s A R h wr)) (fun _ n _=>rank ns n)
   case atStart=>exact⟨A,R,h,p,s,rfl,rfl,HD0.out⟩
   case round=>
    clear HD0;obtain⟨A1,R1,h1,p1,s1,rfl,rfl,HD⟩:=hrel;have hq:q<8:=by omega
    have wq:IntKind.i64.wrap ((q:Int) - 1)=(q:Int) - 1:=by rw[IntKind.wrap_i64];omega
    rcases nxt_cases s1 q with ⟨e1,hlow⟩ | ⟨u,m,t,e2,e1,hm,hu⟩
    ·have HX:=ah (done_none HD.out.plc hlow);have e3:ptrN (nxt noT s1 q) = .pointer none:=by rw[e1];rfl
     rw[e3];clear e1 e3 hlow;have f1:=HD.out.sat.frozen q;have f2:wr.cell? ⟨O,q,none⟩=some (.pointer none):=by rw[HD.out.sat.cell q,outC_get _ _ _ hq,if_neg (by omega)];rfl
     go_wp2_with fail;go_region
     go_wp2_with fail;go_roundw
     ·have hs:=HD.out.sat.drew.set q (.pointer (some ⟨A1,0,none⟩));rw[←HD.out.plc.here HX.out,outC_set _ _ _ hq] at hs;rw[HD.out.plc.here HX.out] at hs;exact⟨q,A1,R1,h1,p1,s1,rfl,rfl,by omega,HD.out.plc.down HX.out,by omega,hs⟩
     ·simp[intOf]<;>omega
    ·have e3:ptrN (nxt noT s1 q) = .pointer (some ⟨m.a,0,none⟩):=by rw[e1];rfl
     rw[e3];have hsp:=HD.out.plc.eq;have hv2:=HV.out.new HD.out.sat.chg;obtain⟨n0,n1,n2,n3,n4,n5,n6⟩:=hv2.node (p1++u) m t (by rw[hsp,e2];simp);unfold slv' at n1 n2;have HR2:=ah hv2.nodup;have HN:=ah n6;have c0:=HD.out.sat.right.right.cell 0;have c1:=HD.out.sat.right.right.cell 1;have c2:=HD.out.sat.right.right.cell 2;have c3:=HD.out.sat.right.right.cell 3;have HU:=ah hu;have E2:=ah e2;have E1:=ah hsp;have HM:=ah hm;clear hu e2 hsp hm e1 e3 hv2 n5 n6 n0;have HC:=ah HD.out.sat.chg;go_wp2_with fail;go_region_law (go_simp;go_at_call 147;refine(less_any m.e e _ (HN.out.new (Chg.refl No wr).drew) (HE.out.new HC.out.drew)).mono ?_;rintro x w5 ⟨rfl,k5⟩)
     all_goals
      cases hb:lessE m.e.ent e.ent with
      | false=>
       have HX:=ah (done_some HD.out.plc HO.out E2.out HU.out (by unfold LTE;rw[hb];simp));have hs0:=HD.out.sat.drew.new k5;have f1:=hs0.frozen q;have f2:w5.cell? ⟨O,q,none⟩=some (.pointer none):=by rw[hs0.cell q,outC_get _ _ _ hq,if_neg (by omega)];rfl
       have HS0:=ah hs0;clear hs0;go_wp2_with fail;go_roundw
       ·have hs:=HS0.out.set q (.pointer (some ⟨A1,0,none⟩));rw[←HD.out.plc.here HX.out,outC_set _ _ _ hq] at hs;rw[HD.out.plc.here HX.out] at hs;exact⟨q,A1,R1,h1,p1,s1,rfl,rfl,by omega,HD.out.plc.down HX.out,by omega,hs⟩
       ·simp[intOf]<;>omega
      | true=>
       have HP:=ah (HD.out.plc.step HV.out HO.out E2.out HM.out hb);have HS0:=ah (HD.out.sat.drew.new k5);have hf:=HO.out.full m (by rw[E1.out,E2.out];simp);have hmq:=HM.out;have q3:=(HP.out.new HS0.out.chg).head;have q4:=(HP.out.new HS0.out.chg).links q (by omega);go_wp2_with fail;go_roundw
       ·exact⟨m.a,m.r,m.h,_,t,rfl,rfl,HP.out,HD.out.k8,HS0.out⟩
       ·have r1:=rank_at (p:=p1++u) (s:=t) (m:=m) HR2.out (by rw[E1.out,E2.out];simp);have r2:=rank_nxt (p:=p1++(u++[m])) (s:=t) (i:=q) HR2.out (by rw[E1.out,E2.out];simp);simp;omega
section
variable {w0 w w':World} {F:SP}
theorem cloneS (S:Option Addr) (n:Nat) (l:List UInt8) (h:Sat w0 F w) (hr:Rd w S l) (hl:l.length≤140737488355328):
  Calls Tryz.prog 104 #[.slice S l.length n] w fun e w'=> ∃ A c,e = .returned (.slice A l.length c)∧Chg No w w'∧Sat w0 (Row 5 1 (.slice A l.length c) l.length (l.map bv)*F) w':=by
 refine(clone_any S n l w hr hl).mono ?_;rintro e w' ⟨v,rfl,h1,h2,h3⟩;have h4:=h.gotRow h3 h1;obtain⟨A,c,rfl,_⟩:=h4.row_sl;exact⟨A,c,rfl,h3,h4⟩
end
def Owned (A:SP):Prop:= ∀ h,A h→ ∀ k x,h k=some x→x.1=false
theorem owned_emp:Owned Emp:=fun h e k x hx=>by unfold Emp at e;rw[e] at hx;cases hx
theorem owned_ow (b:Nat) (o:Obj):Owned (Ow b o):=fun h e k x hx=>by
 unfold Ow at e;rw[e] at hx;unfold one1 at hx;split at hx
 ·injection hx with hx;subst hx;rfl
 ·cases hx
theorem owned_row (e:TypeId) (size:Nat) (v:Value) (n:Nat) (xs:List Value):Owned (Row e size v n xs):=fun h he k x hx=>by
 rcases he.2 with ⟨_,_,h1⟩ | ⟨g,cap,cur,_,_,_,_,_,h1⟩
 ·exact owned_emp h h1 k x hx
 ·exact owned_ow _ _ h h1 k x hx
theorem owned_star {A B:SP} (ha:Owned A) (hb:Owned B):Owned (A*B):=fun h ⟨a,b,h1,h2,h3,h4⟩ k x hx=>by
 rw[h2] at hx;unfold Hp.un jn at hx
 cases hk:a k with
 | none=>rw[hk] at hx;exact hb b h4 k x hx
 | some y=>rw[hk] at hx;injection hx with hx;subst hx;exact ha a h3 k _ hk
theorem Sat.join {w0 w w':World} {A F:SP} (h:Sat w0 F w) (k:Sat w A w') (hA:Owned A):Sat w0 (A*F) w':=by
 obtain⟨x,h1,h2⟩:=h.hp;obtain⟨y,k1,k2⟩:=k.hp;have hs:=h.size;have hd: ∀ b u v,x b=some u→y b=some v→False:=fun b u v hu hv=>by
  have e1:=lt_of_block (h1 b u hu).1;have e2:=(k1 b v hv).2 (hA y k2 b v hv);omega
 refine⟨h.chg.tr k.chg,y.un x,fun b u hu=>?_,y,x,fun b=>?_,rfl,k2,h2⟩
 ·unfold Hp.un jn at hu
  cases hk:y b with
  | none=>
   rw[hk] at hu;have:=h1 b u hu;exact⟨by rw[k.chg.block b (lt_of_block this.1) id];exact this.1,this.2⟩
  | some v=>
   rw[hk] at hu;injection hu with hu;subst hu
   have:=k1 b v hk;exact⟨this.1,fun e=>Nat.le_trans hs (this.2 e)⟩
 ·cases hy:y b with
  | none=>exact .inl rfl
  | some v=>
   cases hx:x b with
   | none=>exact .inr (.inl rfl)
   | some u=>exact(hd b u v hx hy).elim
def CopiedS (w0:World) (F:SP) (e:En) (x:Ending) (w':World):Prop:= ∃ A c B d,x = .returned (enA ⟨(A,c,e.key.2.2),(B,d,e.value.2.2),e.seq,e.dead⟩)∧
 Sat w0 (Row 5 1 (.slice A e.key.2.2.length c) e.key.2.2.length (e.key.2.2.map bv)*(Row 5 1 (.slice B e.value.2.2.length d) e.value.2.2.length (e.value.2.2.map bv)*F)) w'
set_option maxHeartbeats 1000000 in
theorem copied0 (e:En) (w:World) (hr:EnR w e) (hk:e.key.2.2.length≤140737488355328) (hv:e.value.2.2.length≤140737488355328):
  Calls Tryz.prog 110 #[enA e] w (CopiedS w Emp e):=by
 have h:=Sat.start w;obtain⟨⟨kA,kc,k⟩,⟨vA,vc,v⟩,seq,dead⟩:=e;have HRk:Hid (Rd w kA k):=hr.1;have HRv:Hid (Rd w vA v):=hr.2;have hk':k.length≤140737488355328:=hk;have hv':v.length≤140737488355328:=hv;have h1:=h.allocAt (b:=w.heap.size) 120 #[.slice kA k.length kc,.slice vA v.length vc,.int .i64 seq,.bool dead] rfl;have h2:=h1.allocAt (b:=w.heap.size+1) 120 #[.slice none 0 0,.slice none 0 0,.int .i64 0,.bool false] (by simp);have hc2:Chg No w _:=((Chg.refl No w).alloc (.cells #[.slice kA k.length kc,.slice vA v.length vc,.int .i64 seq,.bool dead] 120)).alloc (.cells #[.slice none 0 0,.slice none 0 0,.int .i64 0,.bool false] 120);clear hr h h1;unfold enA;go_enter Tryz.func110, Tryz.ntmps110;go_wp2_with fail;revert h2 hc2;generalize (w.alloc _).alloc _=W;intro h2 hc2;generalize w.heap.size+1=B at*
 generalize w.heap.size=E at*
 have c0:=h2.up2.cell 0;have c1:=h2.up2.cell 1;have c2:=h2.up2.cell 2;have c3:=h2.up2.cell 3;have HS0:=ah h2;have HC0:=ah hc2;clear h2 hc2;go_region_law (first
  | (go_simp;go_at_call 104;(with_reducible refine(cloneS kA kc k HS0.out.drew (HRk.out.new HC0.out.drew) hk').mono ?_);rintro x w1 ⟨A,c,rfl,k1,hs1⟩;have HS1:=ah hs1;have HC1:=ah (HC0.out.drew.tr k1);have c0:=hs1.up3.cell 0;have c1:=hs1.up3.cell 1;have c2:=hs1.up3.cell 2;have c3:=hs1.up3.cell 3;clear hs1 k1)
  | (go_simp;go_at_call 104;(with_reducible refine(cloneS vA vc v HS1.out (HRv.out.new HC1.out) hv').mono ?_);rintro x w2 ⟨B2,d,rfl,k2,hs2⟩;have HS2:=ah hs2;have HC2:=ah (HC1.out.tr k2);have c0:=hs2.up4.cell 0;have c1:=hs2.up4.cell 1;have c2:=hs2.up4.cell 2;have c3:=hs2.up4.cell 3;have f0:=hs2.up4.frozen 0;have f1:=hs2.up4.frozen 1;clear hs2 k2))
 all_goals
  have h5:=(HS2.out.up4.set 0 (.slice A k.length c)).set 1 (.slice B2 v.length d);clear f0 f1 c0 c1 c2 c3;revert h5;generalize World.setCell _ _ _=w3;intro h5;have c0:=h5.cell 0;have c1:=h5.cell 1;have c2:=h5.cell 2;have c3:=h5.cell 3;have d0:=h5.up4.cell 0;have d1:=h5.up4.cell 1;have d2:=h5.up4.cell 2;have d3:=h5.up4.cell 3;have f0:=h5.up4.frozen 0;have f1:=h5.up4.frozen 1;have f2:=h5.up4.frozen 2;have f3:=h5.up4.frozen 3;have h6:=(((h5.up4.set 0 (.slice A k.length c)).set 1 (.slice B2 v.length d)).set 2 (.int .i64 seq)).set 3 (.bool dead);go_wp2_with fail;revert h6;generalize World.setCell _ _ _=w4;intro h6;refine bodyPost_ret (results_cell_row (p:=2) (by kernel_rfl) _ _ B 120 _ (0,0) _ rfl h6.at Tryz.underlying120 rfl (by kernel_rfl)) rfl ?_;exact⟨A,c,B2,d,rfl,h6.right.right.up2⟩
theorem copied_any (e:En) (w0 w:World) (F:SP) (h:Sat w0 F w) (hr:EnR w e) (hk:e.key.2.2.length≤140737488355328) (hv:e.value.2.2.length≤140737488355328):
  Calls Tryz.prog 110 #[enA e] w fun x w'=>CopiedS w0 F e x w'∧Chg No w w':=by
 refine(copied0 e w hr hk hv).mono ?_;rintro x w' ⟨A,c,B,d,rfl,hs⟩;exact⟨⟨A,c,B,d,rfl,(h.join hs (owned_star (owned_row _ _ _ _ _) (owned_star (owned_row _ _ _ _ _) owned_emp))).of (by rw[star_assoc,star_assoc,emp_star])⟩,hs.chg⟩
theorem rowN_set {f g:Nat→Option Nat} {h v i:Nat} {u:Value} (hi:i<v) (hfg: ∀ j,j<h→j≠i→j<v→f j=g j) (hu:ptrN (g i)=u):(rowN f h v).setIfInBounds i u=rowN g h v:=by
 apply Array.ext';apply List.ext_getElem?;intro j;unfold rowN;simp only[List.setIfInBounds_toArray,List.getElem?_set,List.getElem?_map,List.length_map,List.length_range];by_cases hj:j<h
 ·rw[List.getElem?_range hj];by_cases e:i=j
  ·subst e;simp[hj,hi,hu]
  ·by_cases hv:j<v
   ·simp[e,hv,hfg j hj (fun q=>e q.symm) hv]
   ·simp[e,hv]
 ·simp[hj];omega
theorem rowN_more {f:Nat→Option Nat} {h i:Nat}:(rowN f h i).setIfInBounds i (ptrN (f i))=rowN f h (i+1):=by
 apply Array.ext';apply List.ext_getElem?;intro j;unfold rowN;simp only[List.setIfInBounds_toArray,List.getElem?_set,List.getElem?_map,List.length_map,List.length_range];by_cases hj:j<h
 ·rw[List.getElem?_range hj];by_cases e:i=j
  ·subst e;simp[hj]
  ·have:(j<i+1)=(j<i):=by apply propext;omega
   simp[e,this]
 ·simp[hj];omega
theorem last_split (i:Nat): ∀ (p:List Nd) (b:Nat),((∀ n ∈ p,n.v≤i)∧lastAt b p i=b)∨ ∃ p1 m p2,p=p1++m::p2∧i<m.v∧(∀ n ∈ p2,n.v≤i)∧lastAt b p i=m.a
 | [],b=> .inl ⟨by simp,rfl⟩
 | n::p,b=>by
  by_cases h:i<n.v
  ·have e:lastAt b (n::p) i=lastAt n.a p i:=by show (if i<n.v then _ else _)=_;rw[if_pos h]
   rcases last_split i p n.a with ⟨h1,h2⟩ | ⟨p1,m,p2,h1,h2,h3,h4⟩
   ·exact .inr ⟨[],n,p,rfl,h,h1,by rw[e,h2]⟩
   ·exact .inr ⟨n::p1,m,p2,by rw[h1];rfl,h2,h3,by rw[e,h4]⟩
  ·have e:lastAt b (n::p) i=lastAt b p i:=by show (if i<n.v then _ else _)=_;rw[if_neg h]
   rcases last_split i p b with ⟨h1,h2⟩ | ⟨p1,m,p2,h1,h2,h3,h4⟩
   ·exact .inl ⟨fun x hx=>(List.mem_cons.1 hx).elim (fun q=>by subst q;omega) (h1 x),by rw[e,h2]⟩
   ·exact .inr ⟨n::p1,m,p2,by rw[h1];rfl,h2,h3,by rw[e,h4]⟩
def Nd.lev (n:Nd) (i:Nat):Nd:={ n with v:=i }
section
variable {w0 w:World} {F:SP} {b hr i:Nat} {pre beh:List Nd} {N:Nd} {c y:Int}
theorem tail_next (N:Nd) (beh:List Nd) (i j:Nat) (h:j≠i):nxt noT (N.lev i::beh) j=nxt noT (N.lev (i+1)::beh) j:=by
 rw[nxt_cons,nxt_cons];show (if j<i then some N.a else _)=(if j<i+1 then some N.a else _);by_cases hj:j<i
 ·rw[if_pos hj,if_pos (by omega)]
 ·rw[if_neg hj,if_neg (by omega)]
theorem nxt_ext {t t':Nat→Option Nat} {i:Nat} (h:t i=t' i): ∀ ns:List Nd,nxt t ns i=nxt t' ns i:=fun ns=>by
 unfold nxt;cases ns.find? (fun n=>decide (i<n.v)) with | some _=>rfl | none=>exact h
theorem slcs_lev (pre beh:List Nd) (N:Nd) (i j:Nat):slcs (pre++N.lev i::beh)=slcs (pre++N.lev j::beh):=by unfold slcs;simp[Nd.lev]
theorem skip_mid (b hr:Nat) (pre:List Nd) (n:Nd) (beh:List Nd) (c y:Int) (F:SP):SkipC b hr (pre++n::beh) c y*F=
  Pt n.a 186 (nodeC n)*(Pt n.r 183 (rowN (nxt noT beh) n.h n.v)*(NodesG (nxt noT (n::beh)) pre*(Pt hr 183 (rowN (nxt (nxt noT (n::beh)) pre) 8 8)*
   (Pt b 173 #[.slice (some ⟨hr,0,none⟩) 8 8,.int .i64 c,.int .i64 y]*(NodesG noT beh*(RoL (slcs (pre++n::beh))*F)))))):=by
 unfold SkipC;rw[nxt_app,nodes_app];show Pt b _ _*(Pt hr _ _*(NodesG (nxt noT (n::beh)) pre*(Pt n.a _ (nodeC n)*Pt n.r _ (rowN (nxt noT beh) n.h n.v)*NodesG noT beh)*RoL _))*F=_
 ac_rfl
structure Spot (w0 w:World) (b hr:Nat) (pre beh:List Nd) (N:Nd) (i:Nat) (c y:Int) (F:SP) (A R h:Nat):Prop where
 last:lastAt b pre i=A
 hi:i<h
 head:w.cell? ⟨A,0,none⟩=some (.slice (some ⟨R,0,none⟩) h h)
 link:w.cell? ⟨R,i,none⟩=some (ptrN (nxt noT beh i))
 free:w.frozen? ⟨R,i,none⟩=false
 nhead:w.cell? ⟨N.a,0,none⟩=some (.slice (some ⟨N.r,0,none⟩) N.h N.h)
 nlink:w.cell? ⟨N.r,i,none⟩=some (ptrN none)
 nfree:w.frozen? ⟨N.r,i,none⟩=false
 apart:R≠N.r
 on:Sat w0 (SkipC b hr (pre++N.lev (i+1)::beh) c y*F) ((w.setCell ⟨N.r,i,none⟩ (ptrN (nxt noT beh i))).setCell ⟨R,i,none⟩ (.pointer (some ⟨N.a,0,none⟩)))
theorem Sat.spot (h:Sat w0 (SkipC b hr (pre++N.lev i::beh) c y*F) w) (hN:i<N.h) (h8:N.h≤8) (hp: ∀ n ∈ pre,n.v=n.h): ∃ A R H,Spot w0 w b hr pre beh N i c y F A R H:=by
 have h1:=h.of (skip_mid b hr pre (N.lev i) beh c y F);have n0:=h1.cell 0;have n1:w.cell? ⟨N.r,i,none⟩=_:=h1.up2.cell i;rw[rowN_get _ (show i<(N.lev i).h from hN),if_neg (by show ¬ i<i;omega)] at n1;have n2:w.frozen? ⟨N.r,i,none⟩=false:=h1.up2.frozen i;have h2:=h1.up2.set i (ptrN (nxt noT beh i));rw[show rowN (nxt noT beh) (N.lev i).h (N.lev i).v=rowN (nxt noT beh) N.h i from rfl,rowN_more] at h2;have hlow: ∀ j,j<i→nxt noT (N.lev i::beh) j=nxt noT (N.lev (i+1)::beh) j:=fun j hj=>tail_next N beh i j (by omega)
 have hself:nxt noT (N.lev (i+1)::beh) i=some N.a:=by rw[nxt_cons,if_pos (by show i<i+1;omega)];rfl
 have hold:nxt noT (N.lev i::beh) i=nxt noT beh i:=by rw[nxt_cons,if_neg (by show ¬ i<i;omega)]
 rcases last_split i pre b with ⟨hl,ha⟩ | ⟨p1,m,p2,rfl,hm,hl,ha⟩
 ·have g1:=h1.up5.cell 0;have g2:=h1.up4.cell i;have g3:=h1.up4.frozen i;have hne:hr≠N.r:=by have:=h1.up2.up4;exact(Sat.ne this)
  rw[rowN_get _ (by omega),if_pos (by omega),nxt_low hl,hold] at g2;refine⟨b,hr,8,ha,by omega,g1,g2,g3,n0,n1,n2,hne,?_⟩;have h3:=h2.up4.set i (.pointer (some ⟨N.a,0,none⟩));rw[rowN_set (g:=nxt (nxt noT (N.lev (i+1)::beh)) pre) (by omega) (fun j _ hj _=>nxt_ext (tail_next N beh i j hj) pre) (by rw[nxt_low hl,hself];rfl),nodes_low hl hlow,slcs_lev pre beh N i (i+1)] at h3;refine Sat.of ?_ (skip_mid b hr pre (N.lev (i+1)) beh c y F).symm;exact h3.of (by
   show Pt hr _ _*(Pt N.r _ (rowN (nxt noT beh) N.h (i+1))*(Pt N.a _ (nodeC N)*(NodesG _ pre*(Pt b _ _*(NodesG noT beh*(RoL _*F))))))=Pt N.a _ (nodeC N)*(Pt N.r _ (rowN (nxt noT beh) N.h (i+1))*(NodesG _ pre*(Pt hr _ _*(Pt b _ _*(NodesG noT beh*(RoL _*F))))))
   ac_rfl)
 ·have h3:=h1.up3.of (node_out _ p1 m p2 _);have g1:=h3.cell 0;have g2:=h3.up2.cell i;have g3:=h3.up2.frozen i;have hmv:=hp m (by simp);have hne:m.r≠N.r:=fun e=>(Sat.ne (h3.right.up5)) e.symm
  rw[rowN_get _ (by omega),if_pos hm,nxt_low hl,hold] at g2;refine⟨m.a,m.r,m.h,ha,by omega,g1,g2,g3,n0,n1,n2,hne,?_⟩;have h4:=(h2.up3.of (node_out _ p1 m p2 _)).up2.set i (.pointer (some ⟨N.a,0,none⟩));rw[rowN_set (g:=nxt (nxt noT (N.lev (i+1)::beh)) p2) hm (fun j _ hj _=>nxt_ext (tail_next N beh i j hj) p2) (by rw[nxt_low hl,hself];rfl),nodes_low hl hlow] at h4;have e1:nxt (nxt noT (N.lev i::beh)) (m::p2)=nxt (nxt noT (N.lev (i+1)::beh)) (m::p2):=by
   funext j
   by_cases hj:j=i
   ·subst hj;rw[nxt_cons,nxt_cons,if_pos hm,if_pos hm]
   ·exact nxt_ext (tail_next N beh i j hj) _
  have e2:nxt (nxt noT (N.lev i::beh)) (p1++m::p2)=nxt (nxt noT (N.lev (i+1)::beh)) (p1++m::p2):=by rw[nxt_app,nxt_app,e1]
  rw[e1,e2,slcs_lev (p1++m::p2) beh N i (i+1)] at h4;refine Sat.of ?_ (skip_mid b hr (p1++m::p2) (N.lev (i+1)) beh c y F).symm;have e3:=node_out (nxt noT (N.lev (i+1)::beh)) p1 m p2 (Pt N.r 183 (rowN (nxt noT beh) N.h (i+1))*(Pt N.a 186 (nodeC N)*(Pt hr 183 (rowN (nxt (nxt noT (N.lev (i+1)::beh)) (p1++m::p2)) 8 8)*
   (Pt b 173 #[.slice (some ⟨hr,0,none⟩) 8 8,.int .i64 c,.int .i64 y]*(NodesG noT beh*(RoL (slcs (p1++m::p2++N.lev (i+1)::beh))*F))))))
  exact(h4.up2.of e3.symm).of (by
   show NodesG _ (p1++m::p2)*(Pt N.r _ (rowN (nxt noT beh) N.h (i+1))*(Pt N.a _ (nodeC N)*(Pt hr _ _*(Pt b _ _*(NodesG noT beh*(RoL _*F))))))=Pt N.a _ (nodeC N)*(Pt N.r _ (rowN (nxt noT beh) N.h (i+1))*(NodesG _ (p1++m::p2)*(Pt hr _ _*(Pt b _ _*(NodesG noT beh*(RoL _*F))))))
   ac_rfl)
end
def behind (e:Ent) (ns:List Nd):List Nd:=ns.dropWhile fun n=>lessE n.e.ent e
theorem ahead_behind (e:Ent) (ns:List Nd):ns=ahead e ns++behind e ns:=(List.takeWhile_append_dropWhile).symm
theorem behind_head {e:Ent} {ns s:List Nd} {m:Nd} (h:behind e ns=m::s):¬ LTE m.e.ent e:=by
 have:=List.head?_dropWhile_not (fun n:Nd=>lessE n.e.ent e) ns;unfold behind at h;rw[h] at this;simp at this;unfold LTE;rw[this];simp
section
variable {w:World} {b hr:Nat} {ns:List Nd} {e:Ent}
def twice (e:Ent) (ns:List Nd):Bool:=match behind e ns with | m::_=>decide (ordE m.e.ent e=0) | []=>false
theorem twice_iff (hok:NOk ns):twice e ns=true↔ ∃ n ∈ ns,same1 n.e.ent e:=by
 unfold twice;have hs:=hok.sort;have ha:=ahead_behind e ns;constructor
 ·intro h
  cases hb:behind e ns with
  | nil=>rw[hb] at h;simp at h
  | cons m s=>
   rw[hb] at h;refine⟨m,by rw[ha,hb];simp,ord_zero.1 (by simpa using h)⟩
 ·rintro ⟨n,hn,hsame⟩;rw[ha] at hn;rcases List.mem_append.1 hn with hn | hn
  ·exact absurd (mem_ahead hn).2 (same1_not hsame)
  ·cases hb:behind e ns with
   | nil=>rw[hb] at hn;simp at hn
   | cons m s=>
    rw[hb] at hn;rcases List.mem_cons.1 hn with q | hn
    ·subst q;simpa using ord_zero.2 hsame
    ·exfalso;rw[ha,hb,List.pairwise_append,List.pairwise_cons] at hs;have h1:=hs.2.1.1 n hn;refine behind_head hb ?_;rw[lte_iff] at h1 ⊢;rw[←hsame.1, ←hsame.2];exact h1
theorem View.last (v:View w b hr ns) (hok:NOk ns) {pre beh:List Nd} (hs:ns=pre++beh) {i:Nat} (hi:i<8):
  ∃ R h,i<h∧w.cell? ⟨lastAt b pre i,0,none⟩=some (.slice (some ⟨R,0,none⟩) h h)∧w.cell? ⟨R,i,none⟩=some (ptrN (nxt noT beh i)):=by
 subst hs;rcases last_split i pre b with ⟨hl,ha⟩ | ⟨p1,m,p2,rfl,hm,hl,ha⟩
 ·refine⟨hr,8,hi,by rw[ha];exact v.head,?_⟩;have:=v.links i hi;rwa [nxt_app,nxt_low hl] at this
 ·obtain⟨h1,_,_,_,_,h6,_⟩:=v.node p1 m (p2++beh) (by simp);have hf:=hok.full m (by simp);refine⟨m.r,m.h,by omega,by rw[ha];exact h1,?_⟩;have:=h6 i (by omega);rwa [nxt_app,nxt_low hl] at this
end
theorem made_row (K:Nat):madeCells #[.pointer none] K=rowN noT K 0:=by
 apply Array.ext';apply List.ext_getElem?;intro i;unfold madeCells rowN;by_cases h:i<K
 ·simp[h,ptrN];rw[Nat.mod_one];rfl
 ·simp[h]
theorem info_ptr:(Tryz.prog.info? 183).map (fun i=>(i.zero,i.size,i.bytes))=some (some (.pointer none),1,8):=by kernel_rfl
theorem make_ptrs (n:Nat) (hn:n≤1000000) (W:World):(Instr.makeSlice 169 (.int .i64 (n:Int)) (.int .i64 (n:Int))).run Tryz.prog W=
  .ok (.slice (some ⟨W.heap.size,0,none⟩) n n) (W.alloc (.cells (rowN noT n 0) 183)):=by
 obtain⟨i0,hi,hz0,hz1,hz2⟩:=info_parts info_ptr;have hr:=run_make (P:= Tryz.prog) W 169 183 i0 _ Tryz.underlying169 hi hz0 .i64 .i64 n n (by omega) (by omega) (by rw[hz2];omega) (by omega);have hc:(Value.pointer none).cells = #[.pointer none]:=rfl;simpa [hz1,hc,made_row] using hr
def clampH (H:Int):Nat:=(min (max H 1) 8).toNat
section
variable {w0 w:World} {F G:SP} {b hr:Nat} {pre beh ns:List Nd} {N:Nd} {c y:Int}
theorem rows_rol {A B:Option Addr} {cA cB:Nat} {k v:List UInt8} (h:Sat w0 (Row 5 1 (.slice A k.length cA) k.length (k.map bv)*(Row 5 1 (.slice B v.length cB) v.length (v.map bv)*G)) w):Sat w0 (RoL [(A,cA,k),(B,cB,v)]*G) w:=by
 obtain⟨A1,c1,e1,_,_,h1⟩:=h.row_ro;injection e1 with e1 _ _
 subst e1;obtain⟨B1,d1,e2,_,_,h2⟩:=h1.up2.row_ro;injection e2 with e2 _ _
 subst e2;have h3:Sat w0 (Rb B v*(Rb A k*G)) w:=h2;rw[show Rb B v=RoL [(B,cB,v)] from rb_rol (B,cB,v),show Rb A k=RoL [(A,cA,k)] from rb_rol (A,cA,k)] at h3;exact h3.up2.rol_add
theorem skip_in (h:Sat w0 (Pt N.a 186 (nodeC N)*(Pt N.r 183 (rowN noT N.h 0)*(RoL [N.e.key,N.e.value]*(SkipC b hr (pre++beh) c y*F)))) w):Sat w0 (SkipC b hr (pre++N.lev 0::beh) c y*F) w:=by
 refine Sat.of ?_ (skip_mid b hr pre (N.lev 0) beh c y F).symm;have e1:nxt noT (N.lev 0::beh)=nxt noT beh:=by funext j;rw[nxt_cons,if_neg (by show ¬ j<0;omega)]
 have e2:rowN (nxt noT beh) (N.lev 0).h (N.lev 0).v=rowN noT N.h 0:=rowN_congr (fun j _ hj=>by have:j<0:=hj;omega);rw[e1,e2];have h1:Sat w0 (RoL ([N.e.key,N.e.value]++slcs (pre++beh))*(Pt N.a 186 (nodeC N)*(Pt N.r 183 (rowN noT N.h 0)*(NodesG (nxt noT beh) pre*(Pt hr 183 (rowN (nxt (nxt noT beh) pre) 8 8)*
   (Pt b 173 #[.slice (some ⟨hr,0,none⟩) 8 8,.int .i64 c,.int .i64 y]*(NodesG noT beh*F))))))) w:=h.of (by
  rw[←rol_app];unfold SkipC;rw[nxt_app,nodes_app]
  ac_rfl)
 have h2:=h1.rol_sub (rs':=slcs (pre++N.lev 0::beh)) (by intro r hr;unfold slcs at hr ⊢;simp[Nd.lev] at hr ⊢;rcases hr with hr | hr | hr | hr<;>simp[hr]);exact h2.of (by
  show RoL _*(Pt N.a _ (nodeC N)*(Pt N.r _ _*(NodesG _ pre*(Pt hr _ _*(Pt b _ _*(NodesG noT beh*F))))))=Pt N.a _ (nodeC N)*(Pt N.r _ _*(NodesG _ pre*(Pt hr _ _*(Pt b _ _*(NodesG noT beh*(RoL _*F))))))
  ac_rfl)
theorem skip_tab (b hr:Nat) (ns:List Nd) (c y:Int) (F:SP):SkipC b hr ns c y*F=Pt b 173 #[.slice (some ⟨hr,0,none⟩) 8 8,.int .i64 c,.int .i64 y]*(Pt hr 183 (rowN (nxt noT ns) 8 8)*(NodesG noT ns*(RoL (slcs ns)*F))):=by
 unfold SkipC;ac_rfl
theorem Sat.skipC1 (h:Sat w0 (SkipC b hr ns c y*F) w):w.cell? ⟨b,1,none⟩=some (.int .i64 c):=(h.of (skip_tab ..)).cell 1
theorem Sat.skipC2 (h:Sat w0 (SkipC b hr ns c y*F) w):w.cell? ⟨b,2,none⟩=some (.int .i64 y):=(h.of (skip_tab ..)).cell 2
theorem Sat.skipFree (h:Sat w0 (SkipC b hr ns c y*F) w) (i:Nat):w.frozen? ⟨b,i,none⟩=false:=(h.of (skip_tab ..)).frozen i
theorem Sat.skipSet1 (h:Sat w0 (SkipC b hr ns c y*F) w) (c':Int):Sat w0 (SkipC b hr ns c' y*F) (w.setCell ⟨b,1,none⟩ (.int .i64 c')):=Sat.of ((h.of (skip_tab ..)).set 1 (.int .i64 c')) (skip_tab ..).symm
theorem Sat.skipSet2 (h:Sat w0 (SkipC b hr ns c y*F) w) (y':Int):Sat w0 (SkipC b hr ns c y'*F) (w.setCell ⟨b,2,none⟩ (.int .i64 y')):=Sat.of ((h.of (skip_tab ..)).set 2 (.int .i64 y')) (skip_tab ..).symm
end
def PutS (w0:World) (F:SP) (b hr:Nat) (ns:List Nd) (c y:Int) (e:Ent) (H:Int) (x:Ending) (w':World):Prop:=
 (twice e ns=true∧x = .returned (.int .i64 50)∧Sat w0 (SkipC b hr ns c y*F) w')∨
 (twice e ns=false∧x = .returned (.int .i64 0)∧ ∃ N:Nd,N.e.ent=e∧N.v=N.h∧N.h=clampH H∧Sat w0 (SkipC b hr (ahead e ns++N::behind e ns) (c+1) (y+((e.key.length+e.value.length:Nat):Int))*F) w')
set_option maxRecDepth 100000 in
set_option maxHeartbeats 4000000 in
theorem mput_any (b hr:Nat) (ns:List Nd) (c y H:Int) (e:En) (w0 w:World) (F:SP) (h:Sat w0 (SkipC b hr ns c y*F) w) (hok:NOk ns) (he:EnR w e)
  (hk:e.key.2.2.length≤1000000000) (hv:e.value.2.2.length≤1000000000) (hc:0≤c∧c≤1000000000000) (hy:0≤y∧y≤1000000000000):
  Calls Tryz.prog 62 #[.pointer (some ⟨b,0,none⟩),enA e,.int .i64 H] w (PutS w0 F b hr ns c y e.ent H):=by
 have HEA:Hid (∀ e:En,enA e = .agg #[.slice e.key.1 e.key.2.2.length e.key.2.1,.slice e.value.1 e.value.2.2.length e.value.2.1,.int .i64 e.seq,.bool e.dead]):=fun _=>rfl
 have HV:=ah (h.view hok);have HE:=ah he;have HO:=ah hok;have s1:=h.allocAt (b:=w.heap.size) 120 (enC e) rfl;obtain⟨W,hW⟩: ∃ W,W=w.alloc (.cells (enC e) 120):=⟨_,rfl⟩;obtain⟨E,hE⟩: ∃ E,E=w.heap.size:=⟨_,rfl⟩;have HC1:Hid (Chg No w W):=by rw[hW];exact(Chg.refl No w).alloc _
 rw[←hW, ←hE] at s1;have HS1:=ah s1;have HQ:Hid (Value.agg (outC b (ahead e.ent ns) 0) = .agg #[.pointer (some ⟨lastAt b (ahead e.ent ns) 0,0,none⟩),.pointer (some ⟨lastAt b (ahead e.ent ns) 1,0,none⟩),.pointer (some ⟨lastAt b (ahead e.ent ns) 2,0,none⟩),.pointer (some ⟨lastAt b (ahead e.ent ns) 3,0,none⟩),.pointer (some ⟨lastAt b (ahead e.ent ns) 4,0,none⟩),.pointer (some ⟨lastAt b (ahead e.ent ns) 5,0,none⟩),.pointer (some ⟨lastAt b (ahead e.ent ns) 6,0,none⟩),.pointer (some ⟨lastAt b (ahead e.ent ns) 7,0,none⟩)]):=rfl;have eC:enC e = #[.slice e.key.1 e.key.2.2.length e.key.2.1,.slice e.value.1 e.value.2.2.length e.value.2.1,.int .i64 e.seq,.bool e.dead]:=rfl;rw[eC] at hW;rw[HEA.out];clear h he hok;go_enter Tryz.func62, Tryz.ntmps62;clear eC s1;have HW:=ah hW;have HEq:=ah hE;clear hW hE;go_upto_region 3 with (go_at_call 108;rw[←HW.out, ←HEq.out];refine(before_any b hr ns e W (HV.out.new HC1.out) HO.out (HE.out.new HC1.out)).mono ?_;rintro x w2 ⟨rfl,k2⟩;rw[HQ.out];have HV2:=ah ((HV.out.new HC1.out).new k2);have HS2:=ah (HS1.out.new k2);obtain⟨R,h',hlt,q0,q1⟩:=(HV2.out.new ((Chg.refl No w2).alloc (.cells #[.pointer (some ⟨lastAt b (ahead e.ent ns) 0,0,none⟩),.pointer (some ⟨lastAt b (ahead e.ent ns) 1,0,none⟩),.pointer (some ⟨lastAt b (ahead e.ent ns) 2,0,none⟩),.pointer (some ⟨lastAt b (ahead e.ent ns) 3,0,none⟩),.pointer (some ⟨lastAt b (ahead e.ent ns) 4,0,none⟩),.pointer (some ⟨lastAt b (ahead e.ent ns) 5,0,none⟩),.pointer (some ⟨lastAt b (ahead e.ent ns) 6,0,none⟩),.pointer (some ⟨lastAt b (ahead e.ent ns) 7,0,none⟩)] 181))).last HO.out (ahead_behind e.ent ns) (i:=0) (by omega))
 obtain⟨W3,hW3⟩: ∃ W3,W3=w2.alloc (.cells #[.pointer (some ⟨lastAt b (ahead e.ent ns) 0,0,none⟩),.pointer (some ⟨lastAt b (ahead e.ent ns) 1,0,none⟩),.pointer (some ⟨lastAt b (ahead e.ent ns) 2,0,none⟩),.pointer (some ⟨lastAt b (ahead e.ent ns) 3,0,none⟩),.pointer (some ⟨lastAt b (ahead e.ent ns) 4,0,none⟩),.pointer (some ⟨lastAt b (ahead e.ent ns) 5,0,none⟩),.pointer (some ⟨lastAt b (ahead e.ent ns) 6,0,none⟩),.pointer (some ⟨lastAt b (ahead e.ent ns) 7,0,none⟩)] 181):=⟨_,rfl⟩;obtain⟨O,hO⟩: ∃ O,O=w2.heap.size:=⟨_,rfl⟩;have HS3:Hid (Sat w0 (Pt O 181 (outC b (ahead e.ent ns) 0)*(Pt E 120 (enC e)*(SkipC b hr ns c y*F))) W3):=by rw[hW3,hO];exact HS2.out.allocPt _ _
 have HV3:Hid (View W3 b hr ns):=by rw[hW3];exact HV2.out.new ((Chg.refl No w2).alloc _)
 have HE3:Hid (EnR W3 e):=by rw[hW3];exact((HE.out.new HC1.out).new k2).new ((Chg.refl No w2).alloc _)
 rw[←hW3, ←hO];clear hW3 hO q0 q1 k2 hlt HS2 HV2 HS1 HW HEq HC1;go_cut [8,31] (fun _ s wx=>s = .bool (twice e.ent ns)∧Hid (EnR wx e∧Sat w0 (Pt O 181 (outC b (ahead e.ent ns) 0)*(Pt E 120 (enC e)*(SkipC b hr ns c y*F))) wx))
 case first=>
  rcases nxt_cases (behind e.ent ns) 0 with ⟨e1,hlow⟩ | ⟨u,m,t,e2,e1,hm,hu⟩
  ·have hnil:behind e.ent ns=[]:=by
    cases hb:behind e.ent ns with
    | nil=>rfl
    | cons m s=>
     have h1:=hlow m (by rw[hb];simp);have h2:=HO.out.full m (by rw[ahead_behind e.ent ns,hb];simp);omega
   have HT:Hid (twice e.ent ns=false):=by unfold Hid twice;rw[hnil]
   have e3:ptrN (nxt noT (behind e.ent ns) 0) = .pointer none:=by rw[e1];rfl
   rw[e3];clear e1 e3 hlow hnil;go_region
   go_wp2_with fail;go_meet
   exact⟨by rw[HT.out],HE3.out.new (Chg.refl No _).drew,HS3.out.drew⟩
  ·have hu0:u=[]:=by
    cases hb:u with
    | nil=>rfl
    | cons x s=>
     have h1:=hu x (by rw[hb];simp);have h2:=HO.out.full x (by rw[ahead_behind e.ent ns,e2,hb];simp);omega
   subst hu0;rw[List.nil_append] at e2;have HT0:Hid (twice e.ent ns=decide (ordE m.e.ent e.ent=0)):=by unfold Hid twice;rw[e2]
   have e3:ptrN (nxt noT (behind e.ent ns) 0) = .pointer (some ⟨m.a,0,none⟩):=by rw[e1];rfl
   rw[e3];obtain⟨n0,n1,n2,n3,n4,n5,n6⟩:=HV3.out.node (ahead e.ent ns) m t (by rw[←e2];exact ahead_behind _ _);unfold slv' at n1 n2;have HN:=ah n6;clear e1 e3 hm hu n5 n6 n0 e2;have c0:=HS3.out.up2.cell 0;have c1:=HS3.out.up2.cell 1;have c2:=HS3.out.up2.cell 2;have c3:=HS3.out.up2.cell 3;go_region_law (go_simp;go_at_call 109;refine(order_any m.e e _ (HN.out.new (Chg.refl No W3).drew) (HE3.out.new (Chg.refl No W3).drew)).mono ?_;rintro x w5 ⟨rfl,k5⟩)
   all_goals
    go_wp2_with fail;go_meet
    exact⟨by rw[HT0.out];exact congrArg Value.bool (by rw[Bool.eq_iff_iff];simp),(HE3.out.new (Chg.refl No W3).drew).new k5,HS3.out.drew.new k5⟩
 case rest=>
  obtain⟨hs,hcut⟩:=hcut;subst hs;obtain⟨w5,hw5⟩: ∃ w5,w5=wc:=⟨_,rfl⟩;rw[←hw5] at hcut;rw[←hw5];have HC5:=hcut;clear hw5 HV3 HS3 HE3 hcut wc
  cases hb:twice e.ent ns with
  | true=>
   have HT:=ah hb;clear hb;go_wp2_with fail;go_ret;exact .inl ⟨HT.out,rfl,HC5.out.2.right.right⟩
  | false=>
   have HT:=ah hb;clear hb;go_upto_region 5 with fail;go_cut [2] (fun s wx=>s = .int .i64 (clampH H)∧Hid (wx=w5))
   case first=>
    have HK:Hid (clampH H=(min (max H 1) 8).toNat):=rfl;go_wp2_with fail
    all_goals
     go_meet
     refine⟨?_,rfl⟩;congr 1
     rw[HK.out];omega
   case rest=>
    obtain⟨hs,hcw⟩:=hcut;subst hs;have hcw:=hcw.out;subst hcw;have hKl:1≤clampH H:=by unfold clampH;omega
    have hKu:clampH H≤8:=by unfold clampH;omega
    have HK:Hid (clampH H=clampH H):=rfl;revert hKl hKu HK;generalize hKK:clampH H=K;intro hKl hKu HK;have HKK:=ah hKK;clear hKK HK;have c0:=HC5.out.2.up2.cell 0;have c1:=HC5.out.2.up2.cell 1;have c2:=HC5.out.2.up2.cell 2;have c3:=HC5.out.2.up2.cell 3;go_upto_region 6 with fail;go_cut [9] (fun s wx=> ∃ N:Nd,s = .pointer (some ⟨N.a,0,none⟩)∧Hid (N.e.ent=e.ent∧N.h=K∧N.v=0∧
     Sat w0 (Pt N.a 186 (nodeC N)*(Pt N.r 183 (rowN noT N.h 0)*(RoL [N.e.key,N.e.value]*(Pt O 181 (outC b (ahead e.ent ns) 0)*(Pt E 120 (enC e)*(SkipC b hr ns c y*F)))))) wx))
    case first=>
     have hmk:=fun W=>make_ptrs K (by omega) W
     have d0:=(HC5.out.2.alloc' (.cells (rowN noT K 0) 183)).up2.cell 0;have d1:=(HC5.out.2.alloc' (.cells (rowN noT K 0) 183)).up2.cell 1;have d2:=(HC5.out.2.alloc' (.cells (rowN noT K 0) 183)).up2.cell 2;have d3:=(HC5.out.2.alloc' (.cells (rowN noT K 0) 183)).up2.cell 3;have hk2:e.key.2.2.length≤140737488355328:=by omega
     have hv2:e.value.2.2.length≤140737488355328:=by omega
     go_region_law (first
      | (go_simp;go_at_call 110;refine(copied_any e w0 _ _ (HC5.out.2.drew) (HC5.out.1.new (Chg.refl No wc).drew) hk2 hv2).mono ?_;rintro x w6 ⟨⟨A,cA,B,cB,rfl,hs6⟩,k6⟩;have HS6:=ah hs6;clear hs6 k6;simp only[enA])
      | (go_simp;go_at_call 110;refine(copied_any e w0 _ _ ((HC5.out.2.drew).allocPt 183 (rowN noT K 0)) (HC5.out.1.new ((Chg.refl No wc).drew.alloc (.cells (rowN noT K 0) 183))) hk2 hv2).mono ?_;rintro x w6 ⟨⟨A,cA,B,cB,rfl,hs6⟩,k6⟩;have HS6:=ah hs6;clear hs6 k6;simp only[enA]))
     all_goals
      go_wp2_with fail;go_meet
      first
       | exact⟨⟨_,_,⟨(A,cA,e.key.2.2),(B,cB,e.value.2.2),e.seq,e.dead⟩,K,0⟩,rfl,rfl,rfl,rfl,((rows_rol HS6.out).allocAt 186 _ rfl).up3.up2⟩
       | exact⟨⟨_,_,⟨(A,cA,e.key.2.2),(B,cB,e.value.2.2),e.seq,e.dead⟩,K,0⟩,rfl,rfl,rfl,rfl,((rows_rol HS6.out).allocPt 183 (rowN noT K 0)).allocAt 186 _ (by simp)⟩
    case rest=>
     obtain⟨N,hs,hN⟩:=hcut;subst hs;have hNe:=hN.out.1;have hNK:=hN.out.2.1;have hx:=hN.out.2.2.2;have e0:=ahead_behind e.ent ns;obtain⟨pre,hpre⟩: ∃ pre,pre=ahead e.ent ns:=⟨_,rfl⟩;obtain⟨beh,hbeh⟩: ∃ beh,beh=behind e.ent ns:=⟨_,rfl⟩;rw[←hpre, ←hbeh] at e0;rw[←hpre,show SkipC b hr ns c y=SkipC b hr (pre++beh) c y from congrArg (SkipC b hr · c y) e0] at hx;have hx2:=skip_in (N:=N) (pre:=pre) (beh:=beh) (hx.of (show _=_*(_*(_*(SkipC b hr (pre++beh) c y*(Pt O 181 (outC b pre 0)*(Pt E 120 (enC e)*F))))) by ac_rfl));have hfp: ∀ n ∈ pre,n.v=n.h:=fun n hn=>(HO.out.full n (by rw[e0];simp[hn])).1
     have HX:=ah hx2;have HFp:=ah hfp;have HNe:=ah hNe;subst hNK;have Hpre:=ah hpre;have Hbeh:=ah hbeh;clear hx hx2 hfp hNe hpre hbeh e0 hN HC5 c0 c1 c2 c3;go_wp2_with fail;go_loopw [43] (fun i wr=> ∃ k:Nat,k≤N.h∧i = .int .i64 k∧Hid (Sat w0 (SkipC b hr (pre++N.lev k::beh) c y*(Pt O 181 (outC b pre 0)*(Pt E 120 (enC e)*F))) wr)) (fun i _=>N.h - (intOf i).toNat)
     case atStart=>exact⟨0,by omega,rfl,HX.out⟩
     case round=>
      obtain⟨k,hk9,rfl,HD⟩:=hrel;by_cases hlt:k<N.h
      ·obtain⟨A,R,hh,sp⟩:=HD.out.spot hlt hKu HFp.out;have o1:wr.cell? ⟨O,k,none⟩=some (.pointer (some ⟨A,0,none⟩)):=by
        rw[HD.out.up2.cell k,outC_get _ _ _ (by omega),if_pos (by omega),sp.last];rfl
       have p0:=sp.hi;have p1:=sp.head;have p2:=sp.link;have p3:=sp.free;have p4:=sp.nhead;have p5:=sp.nlink;have p6:=sp.nfree;have p7:=sp.apart;have p8:¬ N.r=R:=fun q=>p7 q.symm
       have hon:=sp.on;have e5:ptrN none = .pointer none:=rfl;rw[e5] at p5;obtain⟨PP,hPP⟩: ∃ PP,ptrN (nxt noT beh k) = .pointer PP:=⟨_,rfl⟩;rw[hPP] at p2 hon;have HOn:=ah hon;clear hon hPP e5 sp;have hk8:k<8:=by omega
       go_wp2_with fail;go_region
       go_wp2_with fail;go_roundw
       ·exact⟨k+1,by omega,by push_cast;rfl,HOn.out.drew⟩
       ·simp[intOf]<;>omega
      ·have hkN:k=N.h:=by omega
       subst hkN;have hw1:IntKind.i64.wrap (c+1)=c+1:=by rw[IntKind.wrap_i64];omega
       have hw2:IntKind.i64.wrap ((e.key.2.2.length:Int)+e.value.2.2.length)=(e.key.2.2.length:Int)+e.value.2.2.length:=by rw[IntKind.wrap_i64];omega
       have hw3:IntKind.i64.wrap (y+((e.key.2.2.length:Int)+e.value.2.2.length))=y+((e.key.2.2.length:Int)+e.value.2.2.length):=by rw[IntKind.wrap_i64];omega
       have q1:=HD.out.skipC1;have q2:=HD.out.skipFree 1;have h7:=HD.out.skipSet1 (c+1);have q3:=h7.skipC2;have q4:=h7.skipFree 2;have q5:=h7.up3.cell 0;have q6:=h7.up3.cell 1;have HS7:=ah h7;clear h7;go_wp2_with fail;go_region
       go_wp2_with fail;go_ret;have h9:=(HS7.out.skipSet2 (y+((e.key.2.2.length:Int)+e.value.2.2.length))).drew;rw[Hpre.out,Hbeh.out] at h9;refine .inr ⟨HT.out,rfl,N.lev N.h,HNe.out,rfl,HKK.out.symm,?_⟩;have ey:(((e.ent.key.length+e.ent.value.length:Nat):Int))=(e.key.2.2.length:Int)+e.value.2.2.length:=by push_cast;rfl
       rw[ey];exact h9.drop2.drop2
def inB (tl:List UInt8) (e:Ent):Bool:=decide (tl=[]) || decide (Lib.compareBytes e.key tl<0)
def witE (tl:List UInt8) (i:Nat) (s:List Nd):List Ent:=((s.filter fun n=>decide (i<n.v)).map fun n=>n.e.ent).takeWhile (inB tl)
theorem witE_none {tl:List UInt8} {i:Nat} {s:List Nd} (h: ∀ n ∈ s,n.v≤i):witE tl i s=[]:=by
 unfold witE;have:s.filter (fun n=>decide (i<n.v))=[]:=List.filter_eq_nil_iff.2 fun n hn=>by have:=h n hn;simp;omega
 rw[this];rfl
theorem witE_some {tl:List UInt8} {i:Nat} {u t:List Nd} {m:Nd} (hu: ∀ n ∈ u,n.v≤i) (hm:i<m.v):witE tl i (u++m::t)=if inB tl m.e.ent then m.e.ent::witE tl i t else []:=by
 unfold witE;have:u.filter (fun n=>decide (i<n.v))=[]:=List.filter_eq_nil_iff.2 fun n hn=>by have:=hu n hn;simp;omega
 rw[List.filter_append,this,List.nil_append,List.filter_cons,if_pos (by simpa using hm),List.map_cons,List.takeWhile_cons]
def OwnE:List En→SP
 | []=>Emp
 | e::es=>Row 5 1 (slv' e.key) e.key.2.2.length (e.key.2.2.map bv)*(Row 5 1 (slv' e.value) e.value.2.2.length (e.value.2.2.map bv)*OwnE es)
theorem ownE_snoc (e:En): ∀ es:List En,OwnE (es++[e])=Row 5 1 (slv' e.key) e.key.2.2.length (e.key.2.2.map bv)*(Row 5 1 (slv' e.value) e.value.2.2.length (e.value.2.2.map bv)*OwnE es)
 | []=>rfl
 | x::es=>by
  show Row _ _ _ _ _*(Row _ _ _ _ _*OwnE (es++[e]))=_;rw[ownE_snoc e es];show _=Row _ _ _ _ _*(Row _ _ _ _ _*(Row _ _ _ _ _*(Row _ _ _ _ _*OwnE es)))
  ac_rfl
def ToldE (w:World) (l:List Ent) (x:Ending) (w':World):Prop:= ∃ (es:List En) (A:Option Addr) (c:Nat),x = .returned (.slice A es.length c)∧es.map En.ent=l∧
 Sat w (Row 120 4 (.slice A es.length c) es.length (es.flatMap enV)*OwnE es) w'
structure Small (ns:List Nd):Prop where
 len:ns.length≤1000000
 each: ∀ n ∈ ns,n.e.key.2.2.length≤1000000000∧n.e.value.2.2.length≤1000000000
theorem info_entry:(Tryz.prog.info? 120).map (fun i=>(i.zero,i.size,i.bytes))=some (some (.agg #[.slice none 0 0,.slice none 0 0,.int .i64 0,.bool false]),4,64):=by kernel_rfl
structure Wst (w:World) (ns:List Nd) (tl:List UInt8) (i:Nat) (l:List Ent) (p s:List Nd) (es:List En) (A:Option Addr) (c:Nat) (wr:World):Prop where
 eq:ns=p++s
 told:l=es.map En.ent++witE tl i s
 len:es.length≤p.length
 sat:Sat w (Row 120 4 (.slice A es.length c) es.length (es.flatMap enV)*OwnE es) wr
set_option maxHeartbeats 2000000 in
theorem within_any (T:Option Addr) (Tc:Nat) (tl:List UInt8) (b hr:Nat) (ns p0 s0:List Nd) (i:Nat) (w:World) (hto:Rd w T tl) (hv:View w b hr ns) (hok:NOk ns) (hsm:Small ns) (hs:ns=p0++s0) (hi:i<8):
  Calls Tryz.prog 154 #[ptrN (nxt noT s0 i),.int .i64 i,.slice T tl.length Tc] w (ToldE w (witE tl i s0)):=by
 have HV:=ah hv;have HO:=ah hok;have HT:=ah hto;have HS:=ah hsm;have H0:=ah hs;obtain⟨i0,hi0,hz0,hz1,hz2⟩:=info_parts info_entry;clear hv hok hto hsm hs;by_cases h0:tl=[]
 case' pos=>
  have HZ:=ah h0;rw[show tl.length=0 by rw[h0];rfl];have h1:True:=trivial;clear h0
 case' neg=>
  have HZ:=ah h0;have h1:¬ tl.length=0:=by simpa using h0
  clear h0
 all_goals
  go_enter Tryz.func154, Tryz.ntmps154;go_wp2_with fail;go_loopw [0,7] (fun n out wr=> ∃ (p s:List Nd) (es:List En) (A:Option Addr) (c:Nat),n=ptrN (nxt noT s i)∧out = .slice A es.length c∧Hid (Wst w ns tl i (witE tl i s0) p s es A c wr)) (fun n _ _=>rank ns n)
  case atStart=>exact⟨p0,s0,[],none,0,rfl,rfl,H0.out,rfl,by simp,((Sat.start w).row_nil _ 4).of (by rfl)⟩
  case round=>
   obtain⟨p,s,es,A,c,rfl,rfl,HD⟩:=hrel;rcases nxt_cases s i with ⟨e1,hlow⟩ | ⟨u,m,t,e2,e1,hm,hu⟩
   ·have e3:ptrN (nxt noT s i) = .pointer none:=by rw[e1];rfl
    rw[e3];have ht:=HD.out.told;rw[witE_none hlow,List.append_nil] at ht;have HTl:=ah ht;clear e1 e3 hlow ht;go_wp2_with fail;go_ret;exact⟨es,A,c,rfl,HTl.out.symm,HD.out.sat⟩
   ·have e3:ptrN (nxt noT s i) = .pointer (some ⟨m.a,0,none⟩):=by rw[e1];rfl
    rw[e3];have hv2:=HV.out.new HD.out.sat.chg;have hsp:=HD.out.eq;obtain⟨n0,n1,n2,n3,n4,n5,n6⟩:=hv2.node (p++u) m t (by rw[hsp,e2];simp);have n7:=n5 i (by have:=HO.out.full m (by rw[hsp,e2];simp);omega);have hmi:i<m.h:=by have:=HO.out.full m (by rw[hsp,e2];simp);omega
    unfold slv' at n1 n2;have HN:=ah n6;have HTw:=ah (HT.out.new HD.out.sat.chg);have hdup:=ah hv2.nodup;have hml:=HS.out.each m (by rw[hsp,e2];simp);have hk2:m.e.key.2.2.length≤140737488355328:=by omega
    have hv3:m.e.value.2.2.length≤140737488355328:=by omega
    have hlen:es.length≤1000000:=by have h1:=HD.out.len;have h2:=HS.out.len;rw[hsp,List.length_append] at h2;omega
    have ht:=HD.out.told;rw[e2,witE_some hu hm] at ht;have HTl:=ah ht;have E1:=ah hsp;have E2:=ah e2;clear ht e1 e3 e2 hsp n5 n6 hv2 hml hm hu;have hin:inB tl m.e.ent=(decide (tl=[]) || decide (Lib.compareBytes m.e.key.2.2 tl<0)):=rfl;go_wp2_with (first
     | (go_at_call 145;refine(cmpB_any m.e.key (T,Tc,tl) _ HN.out.1 HTw.out).mono ?_;rintro x wx ⟨rfl,rfl⟩)
     | (go_at_call 110;refine(copied_any m.e w _ _ HD.out.sat HN.out hk2 hv3).mono ?_;rintro x w6 ⟨⟨A2,c2,B2,d2,rfl,hs6⟩,k6⟩;have HS6:=ah hs6;clear hs6 k6;simp only[enA])
     | (at_builtin;refine wpList_appS rfl (.tmp 33) (.tmp 39) 116 rfl 120 i0 _ 4 64 Tryz.underlying116 hi0 hz0 hz1 hz2 rfl (by decide) (.slice A es.length c) es.length (es.flatMap enV) rfl w _ (by exact(HS6.out.alloc' _).up3) (some ⟨w6.heap.size,0,none⟩) 1 1 [.slice A2 m.e.key.2.2.length c2,.slice B2 m.e.value.2.2.length d2,.int .i64 m.e.seq,.bool m.e.dead] rfl (lit_rdv _ _ _) rfl (by intro u hu;simp at hu;rcases hu with rfl | rfl | rfl | rfl<;>rfl) (by unfold maxLen;omega) (by omega) ?_;intro A3 c3 w7 hs7;have HS7:=ah hs7;obtain⟨r0,_,_,_,_,r5,_⟩:=(HV.out.new hs7.chg).node (p++u) m t (by rw[E1.out,E2.out];simp);have r7:=r5 i hmi;clear r5 hs7))
    all_goals first
     | (go_ret
        have hB:inB tl m.e.ent=false:=by
         have h2:=HZ.out;rw[hin];simp[h2];omega
        refine⟨es,A,c,rfl,?_,HD.out.sat⟩;rw[HTl.out,hB];simp)
     | (refine⟨⟨p++(u++[m]),t,es++[⟨(A2,c2,m.e.key.2.2),(B2,d2,m.e.value.2.2),m.e.seq,m.e.dead⟩],A3,c3,rfl,by rw[List.length_append];rfl,?_⟩,?_⟩
        ·have hB:inB tl m.e.ent=true:=by
          rw[hin];have h2:=HZ.out;simp[h2]
          all_goals (rcases ‹((tl.length:Int)==0)=true∨Lib.compareBytes m.e.key.2.2 tl<0› with q | q;exact absurd (by simpa using q) h2;exact q)
         refine⟨by rw[E1.out,E2.out];simp,?_,?_,?_⟩
         ·rw[HTl.out,hB,if_pos rfl,List.map_append,List.append_assoc];rfl
         ·have:=HD.out.len;simp only[List.length_append,List.length_cons,List.length_nil];omega
         ·refine HS7.out.of ?_;rw[ownE_snoc,List.flatMap_append,List.length_append];rfl
        ·have r1:=rank_at (p:=p++u) (s:=t) (m:=m) hdup.out (by rw[E1.out,E2.out];simp);have r2:=rank_nxt (p:=p++(u++[m])) (s:=t) (i:=i) hdup.out (by rw[E1.out,E2.out];simp);omega)
theorem Sat.base' {w w2 w3:World} {A:SP} (k:Chg No w w2) (h:Sat w2 A w3):Sat w A w3:=by
 obtain⟨x,h1,h2⟩:=h.hp;have:=k.size;exact⟨k.tr h.chg,x,fun b y hy=>⟨(h1 b y hy).1,fun e=>by have:=(h1 b y hy).2 e;omega⟩,h2⟩
theorem nok_nil:NOk []:=⟨by simp,List.Pairwise.nil⟩
theorem mnew_any (w0 w:World) (F:SP) (h:Sat w0 F w):Calls Tryz.prog 58 #[] w fun x w'=> ∃ b hr,x = .returned (.pointer (some ⟨b,0,none⟩))∧Sat w0 (SkipC b hr [] 0 0*F) w':=by
 have hmk: ∀ W,(Instr.makeSlice 169 (.int .i64 8) (.int .i64 8)).run Tryz.prog W = .ok (.slice (some ⟨W.heap.size,0,none⟩) 8 8) (W.alloc (.cells (rowN noT 8 0) 183)):=fun W=>make_ptrs 8 (by omega) W
 have HS:=ah h;clear h;go_enter Tryz.func58, Tryz.ntmps58;go_wp2_with fail;go_ret;have h1:=(HS.out.allocPt 183 (rowN noT 8 0)).allocAt (b:=w.heap.size+1) 173 #[.slice (some ⟨w.heap.size,0,none⟩) 8 8,.int .i64 0,.int .i64 0] (by simp);refine⟨_,w.heap.size,rfl,?_⟩;refine Sat.of ?_ (skip_tab ..).symm;have h3:Sat w0 (RoL (slcs [])*(Pt (w.heap.size+1) 173 #[.slice (some ⟨w.heap.size,0,none⟩) 8 8,.int .i64 0,.int .i64 0]*(Pt w.heap.size 183 (rowN noT 8 0)*F))) _:=h1.rolNil _ (by simp[slcs]);exact h3.of (by
  show RoL (slcs [])*(Pt _ _ _*(Pt _ _ (rowN noT 8 0)*F))=Pt _ _ _*(Pt _ _ (rowN noT 8 0)*(Emp*(RoL (slcs [])*F)));rw[emp_star];ac_rfl)
def fromE (l:List UInt8):Ent:=⟨l,[],9223372036854775807,false⟩
def rangeE (fl tl:List UInt8) (ns:List Nd):List Ent:=witE tl 0 (behind (fromE fl) ns)
theorem run_index0 (a0 a1 a2 a3 a4 a5 a6 a7:Option Addr) (W:World):(Instr.index 181 (.agg #[.pointer a0,.pointer a1,.pointer a2,.pointer a3,.pointer a4,.pointer a5,.pointer a6,.pointer a7]) (.int .i64 0)).run Tryz.prog W = .ok (.pointer a0) W:=by
 simp[Instr.index,run_underlying Tryz.underlying181,asIntOf,go_sem]
set_option maxHeartbeats 1000000 in
theorem range_any (FA:Option Addr) (Fc:Nat) (fl:List UInt8) (T:Option Addr) (Tc:Nat) (tl:List UInt8) (b hr:Nat) (ns:List Nd) (w:World) (hf:Rd w FA fl) (hto:Rd w T tl) (hv:View w b hr ns) (hok:NOk ns) (hsm:Small ns):
  Calls Tryz.prog 125 #[.pointer (some ⟨b,0,none⟩),.slice FA fl.length Fc,.slice T tl.length Tc] w (ToldE w (rangeE fl tl ns)):=by
 have HV:=ah hv;have HO:=ah hok;have HT:=ah hto;have HF:=ah hf;have HS:=ah hsm;clear hv hok hto hf hsm;have HQ:Hid (Value.agg (outC b (ahead (fromE fl) ns) 0) = .agg #[.pointer (some ⟨lastAt b (ahead (fromE fl) ns) 0,0,none⟩),.pointer (some ⟨lastAt b (ahead (fromE fl) ns) 1,0,none⟩),.pointer (some ⟨lastAt b (ahead (fromE fl) ns) 2,0,none⟩),.pointer (some ⟨lastAt b (ahead (fromE fl) ns) 3,0,none⟩),.pointer (some ⟨lastAt b (ahead (fromE fl) ns) 4,0,none⟩),.pointer (some ⟨lastAt b (ahead (fromE fl) ns) 5,0,none⟩),.pointer (some ⟨lastAt b (ahead (fromE fl) ns) 6,0,none⟩),.pointer (some ⟨lastAt b (ahead (fromE fl) ns) 7,0,none⟩)]):=rfl;have hix:=run_index0;go_enter Tryz.func125, Tryz.ntmps125;go_wp2_with (first
  | (go_at_call 108;refine(before_any b hr ns ⟨(FA,Fc,fl),(none,0,[]),9223372036854775807,false⟩ _ HV.out HO.out ⟨HF.out,Rd.nil _ _⟩).mono ?_;rintro x w2 ⟨rfl,k2⟩;rw[show (⟨(FA,Fc,fl),(none,0,[]),9223372036854775807,false⟩:En).ent=fromE fl from rfl,HQ.out];have HK:=ah k2;obtain⟨R,h',hlt,q0,q1⟩:=(HV.out.new k2).last HO.out (ahead_behind (fromE fl) ns) (i:=0) (by omega);clear k2)
  | (go_at_call 154;refine(within_any T Tc tl b hr ns (ahead (fromE fl) ns) (behind (fromE fl) ns) 0 _ (HT.out.new HK.out) (HV.out.new HK.out) HO.out HS.out (ahead_behind _ _) (by omega)).mono ?_;rintro x w3 ⟨es,A,c,rfl,he,hs⟩;have HE:=ah he;have HS3:=ah (Sat.base' HK.out hs);clear he hs))
 go_ret;exact⟨es,A,c,rfl,HE.out,HS3.out⟩
end Go.Proofs.YtmbaiglpgaoogaaGreat
namespace Go.Proofs.YtmbaiglpgaoogaaGreat
open Go.RowKit
set_option linter.unusedVariables false
theorem nok_put {ns:List Nd} {N:Nd} {e:Ent} {H:Int} (hok:NOk ns) (ht:twice e ns=false) (hN:N.e.ent=e) (hv:N.v=N.h) (hh:N.h=clampH H):NOk (ahead e ns++N::behind e ns):=by
 have hs:=hok.sort;have e0:=ahead_behind e ns;have hmem: ∀ n,n ∈ ahead e ns∨n ∈ behind e ns→n ∈ ns:=fun n hn=>by rw[e0];exact List.mem_append.2 hn
 have hlt: ∀ n ∈ behind e ns,LTE N.e.ent n.e.ent:=by
  intro n hn;rcases lte_tri N.e.ent n.e.ent with q | q | q
  ·exact q
  ·exfalso;rw[hN] at q
   cases hb:behind e ns with
   | nil=>rw[hb] at hn;simp at hn
   | cons m s=>
    rw[hb] at hn;rw[e0,hb,List.pairwise_append,List.pairwise_cons] at hs;rcases List.mem_cons.1 hn with z | hn
    ·subst z;exact behind_head hb q
    ·exact behind_head hb (lte_trans (hs.2.1.1 n hn) q)
  ·exfalso;have:twice e ns=true:=(twice_iff hok).2 ⟨n,hmem n (.inr hn),by rw[←hN];exact q.symm⟩;rw[ht] at this;cases this
 refine⟨fun n hn=>?_,?_⟩
 ·rcases List.mem_append.1 hn with hn | hn
  ·exact hok.full n (hmem n (.inl hn))
  ·rcases List.mem_cons.1 hn with hn | hn
   ·subst hn;refine⟨hv,?_,?_⟩<;>rw[hh]<;>unfold clampH<;>omega
   ·exact hok.full n (hmem n (.inr hn))
 ·rw[e0,List.pairwise_append] at hs;rw[List.pairwise_append,List.pairwise_cons];refine⟨hs.1,⟨hlt,hs.2.1⟩,fun a ha c hc=>?_⟩;rcases List.mem_cons.1 hc with hc | hc
  ·subst hc;rw[hN];exact(mem_ahead ha).2
  ·exact hs.2.2 a ha c hc
end Go.Proofs.YtmbaiglpgaoogaaGreat
namespace Go.Proofs.YtmbaiglpgaoogaaGreat
open Go.RowKit
set_option linter.unusedVariables false
set_option maxRecDepth 100000
theorem beq_any (a b:Slc) (w:World) (ha:Rd w a.1 a.2.2) (hb:Rd w b.1 b.2.2):
  Calls Tryz.prog 126 #[.slice a.1 a.2.2.length a.2.1,.slice b.1 b.2.2.length b.2.1] w fun e w'=>e = .returned (.bool (decide (a.2.2=b.2.2)))∧w'=w:=by
 obtain⟨SA,SB,B,e1,e2,e3,e4⟩:=str_two a.2.2 b.2.2;have s1:=str_any ha a.2.1;have s2:=str_any hb b.2.1;rw[←e1] at s1;rw[←e2] at s2;rw[←e4];clear ha hb e1 e2 e4;go_enter Tryz.func126, Tryz.ntmps126;go_wp2;go_ret;exact⟨rfl,rfl⟩
def seekE (key:List UInt8) (seq:Int):Ent:=⟨key,[],seq,false⟩
def getE (key:List UInt8) (seq:Int) (ns:List Nd):Option Ent:=match behind (seekE key seq) ns with
 | m::_=>if m.e.key.2.2=key then some m.e.ent else none
 | []=>none
def noE:Ent:=⟨[],[],0,false⟩
def GotE (w:World) (q:Option Ent) (x:Ending) (w':World):Prop:= ∃ g:En,x = .returned (.tuple #[enA g,.bool q.isSome])∧g.ent=q.getD noE∧Sat w (OwnE [g]) w'
theorem results_cell_tmp {P:Program} {fn:Func} {p q:Tmp} {ty:TypeId} (h:fn.results = #[.cell p ty,.tmp q]) (tmps:Array Value) (w:World) (g:Nat) (t:TypeId) (cs:Array Value) (fr:Nat × Nat) (d:TypeDesc) (v:Value)
  (hp:tmps.getD p undef = .pointer (some ⟨g,0,none⟩)) (hq:tmps.getD q undef=v) (hg:w.heap[g]?=some (.cells cs t fr))
  (hu:P.underlying ty=some d) (hd:(match d with | .struct _ | .array _ _=>true | _=>false)=true) (hi:(P.info? ty).map (·.size)=some cs.size):
  (results fn tmps).run P w = .ok (.tuple #[.agg cs,v]) w:=by
 have hp':tmps[p]?.getD undef = .pointer (some ⟨g,0,none⟩):=by simpa using hp
 have hq':tmps[q]?.getD undef=v:=by simpa using hq
 simp[results,h,hp',hq',asAddr,run_loadVar_row w g t ty cs fr d hg hu hd hi]
set_option maxHeartbeats 2000000 in
theorem get_any (K:Slc) (seq:Int) (b hr:Nat) (ns:List Nd) (w:World) (hk:Rd w K.1 K.2.2) (hv:View w b hr ns) (hok:NOk ns) (hsm:Small ns):
  Calls Tryz.prog 127 #[.pointer (some ⟨b,0,none⟩),.slice K.1 K.2.2.length K.2.1,.int .i64 seq] w (GotE w (getE K.2.2 seq ns)):=by
 have HV:=ah hv;have HO:=ah hok;have HK:=ah hk;have HS:=ah hsm;have h1:=(Sat.start w).allocAt (b:=w.heap.size) 120 #[.slice none 0 0,.slice none 0 0,.int .i64 0,.bool false] rfl;have c1:Chg No w (w.alloc (.cells #[.slice none 0 0,.slice none 0 0,.int .i64 0,.bool false] 120)):=(Chg.refl No w).alloc _;have HC1:=ah c1;have HS1:=ah h1;clear hv hok hk hsm h1 c1;have HQ:Hid (Value.agg (outC b (ahead (seekE K.2.2 seq) ns) 0) = .agg #[.pointer (some ⟨lastAt b (ahead (seekE K.2.2 seq) ns) 0,0,none⟩),.pointer (some ⟨lastAt b (ahead (seekE K.2.2 seq) ns) 1,0,none⟩),.pointer (some ⟨lastAt b (ahead (seekE K.2.2 seq) ns) 2,0,none⟩),.pointer (some ⟨lastAt b (ahead (seekE K.2.2 seq) ns) 3,0,none⟩),.pointer (some ⟨lastAt b (ahead (seekE K.2.2 seq) ns) 4,0,none⟩),.pointer (some ⟨lastAt b (ahead (seekE K.2.2 seq) ns) 5,0,none⟩),.pointer (some ⟨lastAt b (ahead (seekE K.2.2 seq) ns) 6,0,none⟩),.pointer (some ⟨lastAt b (ahead (seekE K.2.2 seq) ns) 7,0,none⟩)]):=rfl;have hix:=run_index0;go_enter Tryz.func127, Tryz.ntmps127;go_upto_region 2 with (go_at_call 108;refine(before_any b hr ns ⟨K,(none,0,[]),seq,false⟩ _ (HV.out.new HC1.out) HO.out ⟨HK.out.new HC1.out,Rd.nil _ _⟩).mono ?_;rintro x w2 ⟨rfl,k2⟩;rw[show (⟨K,(none,0,[]),seq,false⟩:En).ent=seekE K.2.2 seq from rfl,HQ.out];have HK2:=ah (HC1.out.tr k2);have HS2:=ah (HS1.out.new k2);obtain⟨R,h',hlt,q0,q1⟩:=(HV.out.new HK2.out).last HO.out (ahead_behind (seekE K.2.2 seq) ns) (i:=0) (by omega);clear k2)
 have HV2:=ah (HV.out.new HK2.out);have HG:Hid (getE K.2.2 seq ns=match behind (seekE K.2.2 seq) ns with
  | m::_=>if m.e.key.2.2=K.2.2 then some m.e.ent else none
  | []=>none):=rfl
 generalize w.heap.size=O at*
 rcases nxt_cases (behind (seekE K.2.2 seq) ns) 0 with ⟨e1,hlow⟩ | ⟨u,m,t,e2,e1,hm,hu⟩
 ·have hnil:behind (seekE K.2.2 seq) ns=[]:=by
   cases hb:behind (seekE K.2.2 seq) ns with
   | nil=>rfl
   | cons m s=>
    have h1:=hlow m (by rw[hb];simp);have h2:=HO.out.full m (by rw[ahead_behind (seekE K.2.2 seq) ns,hb];simp);omega
  have HT:Hid (getE K.2.2 seq ns=none):=by unfold Hid;rw[HG.out,hnil]
  have e3:ptrN (nxt noT (behind (seekE K.2.2 seq) ns) 0) = .pointer none:=by rw[e1];rfl
  rw[e3];have c0:=HS2.out.cell 0;have c1:=HS2.out.cell 1;have c2:=HS2.out.cell 2;have c3:=HS2.out.cell 3;have f0:=HS2.out.frozen 0;have f1:=HS2.out.frozen 1;have f2:=HS2.out.frozen 2;have f3:=HS2.out.frozen 3;have h6:=(((HS2.out.set 0 (.slice none 0 0)).set 1 (.slice none 0 0)).set 2 (.int .i64 0)).set 3 (.bool false);clear e1 e3 hlow hnil q0 q1;go_wp2_with fail;revert h6;generalize World.setCell _ _ _=w4;intro h6;refine bodyPost_ret (results_cell_tmp (p:=6) (q:=7) (by kernel_rfl) _ _ O 120 _ (0,0) _ _ rfl rfl h6.at Tryz.underlying120 rfl (by kernel_rfl)) rfl ?_;rw[HT.out];refine⟨⟨(none,0,[]),(none,0,[]),0,false⟩,rfl,rfl,?_⟩;exact((h6.right.row_nil 5 1).row_nil 5 1)
 ·have hu0:u=[]:=by
   cases hb:u with
   | nil=>rfl
   | cons x s=>
    have h1:=hu x (by rw[hb];simp);have h2:=HO.out.full x (by rw[ahead_behind (seekE K.2.2 seq) ns,e2,hb];simp);omega
  subst hu0;rw[List.nil_append] at e2;have hgm:getE K.2.2 seq ns=if m.e.key.2.2=K.2.2 then some m.e.ent else none:=by rw[HG.out,e2]
  have e3:ptrN (nxt noT (behind (seekE K.2.2 seq) ns) 0) = .pointer (some ⟨m.a,0,none⟩):=by rw[e1];rfl
  rw[e3];obtain⟨n0,n1,n2,n3,n4,n5,n6⟩:=HV2.out.node (ahead (seekE K.2.2 seq) ns) m t (by rw[←e2];exact ahead_behind _ _);have hml:=HS.out.each m (by rw[ahead_behind (seekE K.2.2 seq) ns,e2];simp);have hk2:m.e.key.2.2.length≤140737488355328:=by omega
  have hv2:m.e.value.2.2.length≤140737488355328:=by omega
  unfold slv' at n1 n2;have HN:=ah n6;clear e1 e3 hm hu n5 n6 n0 e2 q0 q1 hml;by_cases hkk:m.e.key.2.2=K.2.2
  ·rw[if_pos hkk] at hgm;have HT:=ah hgm;have HB:Hid (decide (m.e.key.2.2=K.2.2)=true):=by simpa [Hid] using hkk
   clear hgm hkk;go_wp2_with (first
    | (go_at_call 126;refine(beq_any m.e.key K _ HN.out.1 (HK.out.new HK2.out)).mono ?_;rintro x wx ⟨rfl,rfl⟩;rw[HB.out])
    | (go_at_call 110;refine(copied_any m.e w _ _ HS2.out HN.out hk2 hv2).mono ?_;rintro x w6 ⟨⟨A2,c2,B2,d2,rfl,hs6⟩,k6⟩;have z0:=hs6.up3.cell 0;have z1:=hs6.up3.cell 1;have z2:=hs6.up3.cell 2;have z3:=hs6.up3.cell 3;have f0:=hs6.up3.frozen 0;have f1:=hs6.up3.frozen 1;have f2:=hs6.up3.frozen 2;have f3:=hs6.up3.frozen 3;have h9:=(((hs6.up3.set 0 (.slice A2 m.e.key.2.2.length c2)).set 1 (.slice B2 m.e.value.2.2.length d2)).set 2 (.int .i64 m.e.seq)).set 3 (.bool m.e.dead);have HS9:=ah h9;clear hs6 k6 h9;simp only[enA]))
   have h9:=HS9.out;revert h9;generalize World.setCell _ _ _=w4;intro h9;refine bodyPost_ret (results_cell_tmp (p:=6) (q:=7) (by kernel_rfl) _ _ O 120 _ (0,0) _ _ rfl rfl h9.at Tryz.underlying120 rfl (by kernel_rfl)) rfl ?_;rw[HT.out];exact⟨⟨(A2,c2,m.e.key.2.2),(B2,d2,m.e.value.2.2),m.e.seq,m.e.dead⟩,rfl,rfl,h9.right⟩
  ·rw[if_neg hkk] at hgm;have HT:=ah hgm;have HB:Hid (decide (m.e.key.2.2=K.2.2)=false):=by simpa [Hid] using hkk
   clear hgm hkk;have c0:=HS2.out.cell 0;have c1:=HS2.out.cell 1;have c2:=HS2.out.cell 2;have c3:=HS2.out.cell 3;have f0:=HS2.out.frozen 0;have f1:=HS2.out.frozen 1;have f2:=HS2.out.frozen 2;have f3:=HS2.out.frozen 3;have h6:=(((HS2.out.set 0 (.slice none 0 0)).set 1 (.slice none 0 0)).set 2 (.int .i64 0)).set 3 (.bool false);have HS6:=ah h6;clear h6;go_wp2_with (first
    | (go_at_call 126;refine(beq_any m.e.key K _ HN.out.1 (HK.out.new HK2.out)).mono ?_;rintro x wx ⟨rfl,rfl⟩;rw[HB.out]))
   have h6:=HS6.out;revert h6;generalize World.setCell _ _ _=w4;intro h6;refine bodyPost_ret (results_cell_tmp (p:=6) (q:=7) (by kernel_rfl) _ _ O 120 _ (0,0) _ _ rfl rfl h6.at Tryz.underlying120 rfl (by kernel_rfl)) rfl ?_;rw[HT.out];refine⟨⟨(none,0,[]),(none,0,[]),0,false⟩,rfl,rfl,?_⟩;exact((h6.right.row_nil 5 1).row_nil 5 1)
def commonN:List UInt8→List UInt8→Nat
 | a::l,b::m=>if a=b then commonN l m+1 else 0
 | _,_=>0
theorem commonN_le: ∀ a b:List UInt8,commonN a b≤a.length∧commonN a b≤b.length
 | [],b=>by simp[commonN]
 | a::l,[]=>by simp[commonN]
 | a::l,b::m=>by
  have:=commonN_le l m;unfold commonN;split<;>simp<;>omega
theorem commonN_take: ∀ a b:List UInt8,a.take (commonN a b)=b.take (commonN a b)
 | [],b=>by simp[commonN]
 | a::l,[]=>by simp[commonN]
 | a::l,b::m=>by
  have:=commonN_take l m;unfold commonN;split
  ·rename_i h;rw[List.take_succ_cons,List.take_succ_cons,this,h]
  ·simp
theorem commonN_eq: ∀ {a b:List UInt8} {n:Nat},n≤a.length→n≤b.length→(∀ j (h:j<a.length) (h':j<b.length),j<n→a[j]=b[j])→(∀ (h:n<a.length) (h':n<b.length),a[n]≠b[n])→commonN a b=n
 | [],b,n,h1,_,_,_=>by simp at h1;simp[commonN,h1]
 | a::l,[],n,_,h2,_,_=>by simp at h2;simp[commonN,h2]
 | a::l,b::m,0,_,_,_,h4=>by
  have:=h4 (by simp) (by simp);unfold commonN;rw[if_neg (by simpa using this)]
 | a::l,b::m,n+1,h1,h2,h3,h4=>by
  have h0:=h3 0 (by simp) (by simp) (by omega);unfold commonN;rw[if_pos (by simpa using h0),commonN_eq (n:=n) (by simpa using h1) (by simpa using h2) (fun j h h' hj=>by
   have:=h3 (j+1) (by simp;omega) (by simp;omega) (by omega);simpa using this) (fun h h'=>by
   have:=h4 (by simp;omega) (by simp;omega);simpa using this)]
def mayE (e:Ent):Bool:=decide (e.key.length≤128) && (decide (e.value.length≤16384) && ((!e.dead || decide (e.value.length=0)) && decide (0≤e.seq)))
def entB (ahead:List UInt8) (e:Ent):List UInt8:=
 [UInt8.ofNat (commonN ahead e.key),UInt8.ofNat (e.key.length - commonN ahead e.key)]++(putB e.seq.toNat 8++([if e.dead then 1 else 0]++(putB e.value.length 2++(e.key.drop (commonN ahead e.key)++e.value))))
def aheadK (L:List Ent) (i:Nat):List UInt8:=if i % 8=0 then [] else match L[i - 1]? with | some e=>e.key | none=>[]
def entAt (L:List Ent) (i:Nat):List UInt8:=match L[i]? with | some e=>entB (aheadK L i) e | none=>[]
def markB:List UInt8:=[84,68,84,49]
def bodyB (L:List Ent) (k:Nat):List UInt8:=markB++putB L.length 4++((List.range k).map (entAt L)).flatten
def idxAt (L:List Ent) (i:Nat):List UInt8:=if i % 8=0 then putB (bodyB L i).length 4++([UInt8.ofNat ((L[i]?.map (·.key.length)).getD 0)]++(L[i]?.map (·.key)).getD []) else []
def idxB (L:List Ent) (k:Nat):List UInt8:=putB ((L.length+7) / 8) 4++((List.range k).map (idxAt L)).flatten
def unlike (L:List Ent):Nat→List (List UInt8)
 | 0=>[]
 | k+1=>match L[k]? with
  | none=>unlike L k
  | some e=>if k=0 then unlike L k++[e.key] else match L[k - 1]? with
   | some d=>if d.key=e.key then unlike L k else unlike L k++[e.key]
   | none=>unlike L k++[e.key]
def bitsB (L:List Ent):List UInt8:=addAll (List.replicate (nbytes (unlike L L.length).length 10) 0) (unlike L L.length)
def allB (L:List Ent):List UInt8:=
 let b:=bodyB L L.length;let c:=b++idxB L L.length
 c++putB (bitsB L).length 4++bitsB L++putB b.length 4++putB c.length 4
def buildB (L:List Ent):List UInt8:=allB L++putB (sumB (allB L)) 4
def buildE (L:List Ent):Nat:=if sortedB L=false then 70 else if 65536<L.length∨L.any (fun e=> !mayE e) then 71 else 0
theorem bodyB_succ (L:List Ent) (k:Nat):bodyB L (k+1)=bodyB L k++entAt L k:=by
 unfold bodyB;rw[List.range_succ,List.map_append,List.flatten_append,List.append_assoc];simp
theorem idxB_succ (L:List Ent) (k:Nat):idxB L (k+1)=idxB L k++idxAt L k:=by
 unfold idxB;rw[List.range_succ,List.map_append,List.flatten_append,List.append_assoc];simp
end Go.Proofs.YtmbaiglpgaoogaaGreat
