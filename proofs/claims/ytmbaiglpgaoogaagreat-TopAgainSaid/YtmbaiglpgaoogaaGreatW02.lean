/- Joined, as they were built one by one: Bytes Rol Clone OwnL Join StrTwo BloomMore Within WalWalk WalSplit WalWhole. -/
import Derived.Test.YtmbaiglpgaoogaaGreatProg
import Derived.Lib.SlBytesConst
import Derived.Test.YtmbaiglpgaoogaaGreatW01
set_option maxHeartbeats 16000000
set_option linter.unusedVariables false
set_option maxRecDepth 100000
namespace Go.Proofs.YtmbaiglpgaoogaaGreat
open Go.RowKit Z
theorem iw:(Tryz.prog.info? 5).map (fun i=>(i.zero,i.size,i.bytes))=some (some (.int .u8 0),1,1):=by kernel_rfl
def fV (n:Nat):Array Value:=((List.replicate n (0:UInt8)).map bv).toArray
theorem ue (n:Nat):madeCells #[.int .u8 0] n=fV n:=by
 apply Array.ext';apply List.ext_getElem?;intro j;simp[madeCells,fV,List.getElem?_replicate];by_cases h:j<n
 .simp[h,bv];rw[Nat.mod_one];rfl
 .simp[h]
theorem zj (n:Nat) (hn:n<=140737488355330) (W:World):(Instr.makeSlice 41 (.int .i64 (n:Int)) (.int .i64 (n:Int))).run Tryz.prog W=
 .ok (.slice (some ⟨W.heap.size,0,none⟩) n n) (W.alloc (.cells (fV n) 5)):=by
 obtain⟨i0,hi,hz0,hz1,hz2⟩:=info_parts iw;have hr:=run_make (P:= Tryz.prog) W 41 5 i0 _ Tryz.underlying41 hi hz0 .i64 .i64 n n (by omega) (by omega) (by rw[hz2];omega) (by omega);have hc:(Value.int .u8 0).cells = #[.int .u8 0]:=rfl;simpa [hz1,hc,ue] using hr
theorem F0 (W:World):(Instr.makeSlice 41 (.int .i64 512) (.int .i64 512)).run Tryz.prog W = .ok (.slice (some ⟨W.heap.size,0,none⟩) 512 512) (W.alloc (.cells (fV 512) 5)):=zj 512 (by omega) W
abbrev du:=Option Addr × Nat × List UInt8
def cd (rs:List du):SP:=fun h=>(∀ k x,h k=some x->x.1=true)/\ ∀ r ∈ rs,r.2.2≠[]-> ∃ b o cs t fr,r.1=some ⟨b,o,none⟩/\h b=some (true,.cells cs t fr)/\ ∀ j (hj:j<r.2.2.length),cs[o+j]?=some (bv r.2.2[j])
section
variable {w0 w:World} {F:SP} {rs rs':List du}
theorem ij {h:Hp} (hr:cd rs h) (hs: ∀ r ∈ rs',r ∈ rs):cd rs' h:=⟨hr.1,fun r hx=>hr.2 r (hs r hx)⟩
theorem Sat.ij (h:Sat w0 (cd rs*F) w) (hs: ∀ r ∈ rs',r ∈ rs):Sat w0 (cd rs'*F) w:=h.mono fun x ⟨a,f,h1,h2,h3,h4⟩=>⟨a,f,h1,h2,Proofs.YtmbaiglpgaoogaaGreat.ij h3 hs,h4⟩
theorem Aw (rs:List du):cd rs*cd rs=cd rs:=by
 funext h
 refine propext ⟨?_,fun hh=>⟨h,h,fun k=>?_,funext fun k=>?_,hh,hh⟩⟩
 .rintro ⟨a,b,h1,rfl,⟨h2,h3⟩,h4,h5⟩;refine⟨fun k x hx=>?_,fun r hr hx=>?_⟩
  .unfold Hp.un jn at hx
   cases ha:a k with
   | none=>rw[ha] at hx;exact h4 k x hx
   | some y=>rw[ha] at hx;injection hx with hx;subst hx;exact h2 k _ ha
  .obtain⟨b',o,cs,t,fr,e,hb,hc⟩:=h3 r hr hx;exact⟨b',o,cs,t,fr,e,by unfold Hp.un;rw[hb];rfl,hc⟩
 .cases hk:h k with
  | none=>exact .inl rfl
  | some x=>have:=hh.1 k x hk;obtain⟨q,o⟩:=x;cases this;exact .inr (.inr ⟨o,rfl,rfl⟩)
 .unfold Hp.un jn;cases h k<;>rfl
theorem ir (rs rs':List du):cd rs*cd rs'=cd (rs++rs'):=by
 funext h
 refine propext ⟨?_,fun hh=>?_⟩
 .rintro ⟨a,b,h1,rfl,⟨h2,h3⟩,h4,h5⟩;refine⟨fun k x hx=>?_,fun r hr hx=>?_⟩
  .unfold Hp.un jn at hx
   cases ha:a k with
   | none=>rw[ha] at hx;exact h4 k x hx
   | some y=>rw[ha] at hx;injection hx with hx;subst hx;exact h2 k _ ha
  .rcases List.mem_append.1 hr with hr | hr
   .obtain⟨b',o,cs,t,fr,e,hb,hc⟩:=h3 r hr hx;exact⟨b',o,cs,t,fr,e,by unfold Hp.un;rw[hb];rfl,hc⟩
   .obtain⟨b',o,cs,t,fr,e,hb,hc⟩:=h5 r hr hx;refine⟨b',o,cs,t,fr,e,?_,hc⟩;unfold Hp.un;rcases h1 b' with q | q | ⟨ob,q1,q2⟩
    .rw[q,hb];rfl
    .rw[q] at hb;cases hb
    .rw[q1, <-hb,q2];rfl
 .have e:=Aw (rs++rs');rw[<-e] at hh;obtain⟨a,b,h1,h2,h3,h4⟩:=hh;exact⟨a,b,h1,h2,ij h3 (fun r hr=>List.mem_append_left _ hr),ij h4 (fun r hr=>List.mem_append_right _ hr)⟩
theorem Sat.F4 (h:Sat w0 (cd rs*F) w) {r:du} (hr:r ∈ rs):Rd w r.1 r.2.2:=fun hx=>by
 obtain⟨_,h1,a,f,h2,rfl,⟨ha,ha2⟩,hf⟩:=h.hp;obtain⟨b,o,cs,t,fr,e,hb,hc⟩:=ha2 r hr (by simpa using hx);refine⟨b,o,e,fun j hj=>?_⟩;have:=(h1 b (true,.cells cs t fr) (by unfold Hp.un;rw[hb];rfl)).1;rw[cell_of_row w b (o+j) cs t fr this];simpa using hc j (by simpa using hj)
theorem Sat.mj (h:Sat w0 F w) (rs:List du) (hn: ∀ r ∈ rs,r.2.2=[]):Sat w0 (cd rs*F) w:=
 (h.of (bf F).symm).mono fun x ⟨a,f,h1,h2,h3,h4⟩=>⟨a,f,h1,h2,⟨fun k y hy=>(by unfold bF at h3;rw[h3] at hy;cases hy),fun r hr hx=>absurd (hn r hr) hx⟩,h4⟩
theorem qN (r:du):Rb r.1 r.2.2=cd [r]:=by
 funext h
 unfold Rb Ro cd;refine propext ⟨fun ⟨h1,h2⟩=>⟨h1,fun q hq hx=>?_⟩,fun ⟨h1,h2⟩=>⟨h1,fun hx=>?_⟩⟩
 .simp at hq;subst hq;obtain⟨b,o,cs,t,fr,e,hb,hc⟩:=h2 (by simpa using hx);exact⟨b,o,cs,t,fr,e,hb,fun j hj=>by have:=hc j (by simpa using hj);rwa [List.getElem_map] at this⟩
 .obtain⟨b,o,cs,t,fr,e,hb,hc⟩:=h2 r (by simp) (by simpa using hx);exact⟨b,o,cs,t,fr,e,hb,fun j hj=>by rw[List.getElem_map];exact hc j (by simpa using hj)⟩
theorem Sat.iA (h:Sat w0 (cd rs*(cd rs'*F)) w):Sat w0 (cd (rs++rs')*F) w:=h.of (by rw[<-aB,ir])
end
theorem Sat.bO {w0 w:World} {F:SP} {b:Nat} (h:Sat w0 F w) (t:TypeId) (cs:Array Value) (hb:b=w.heap.size):Sat w0 (Pt b t cs*F) (w.alloc (.cells cs t)):=by subst hb;exact h.ab t cs
theorem CX {w0 w:World} {F:SP} {g n:Nat} (h:Sat w0 (Pt g 5 (fV n)*F) w) (hn:n<=maxLen):Sat w0 (Row 5 1 (.slice (some ⟨g,0,none⟩) n n) (List.replicate n (0:UInt8)).length ((List.replicate n (0:UInt8)).map bv)*F) w:=by
 have h1:=h.dN (n:=n) (cap:=n) (size:=1) (Nat.le_refl _) hn (by simp[fV]);have e:(fV n).toList.take (n*1)=(List.replicate n (0:UInt8)).map bv:=by
  unfold fV;rw[Nat.mul_one];exact List.take_of_length_le (by simp)
 rw[e] at h1;rw[List.length_replicate];exact h1
theorem nY {α:Type} {f:α->List Value} (hf: ∀ x,(f x).length=2): ∀ (l:List α) (i j:Nat) (hi:i<l.length) (hj:j<2),(l.flatMap f)[i*2+j]?=(f l[i])[j]?
 | [],i,j,hi,hj=>by simp at hi
 | x::l,0,j,hi,hj=>by
  rw[List.flatMap_cons,Nat.zero_mul,Nat.zero_add,List.getElem?_append_left (by rw[hf];exact hj)];rfl
 | x::l,i+1,j,hi,hj=>by
  rw[List.flatMap_cons,List.getElem?_append_right (by rw[hf];omega),hf];have:=nY hf l i j (by simpa using hi) hj;rw[show (i+1)*2+j - 2=i*2+j by omega,this];rfl
theorem dv {α:Type} {f:α->List Value} (hf: ∀ x,(f x).length=2): ∀ (l:List α),(l.flatMap f).length=l.length*2
 | []=>rfl
 | x::l=>by rw[List.flatMap_cons,List.length_append,hf,dv hf l,List.length_cons];omega
theorem BA {α:Type} {f:α->List Value} (hf: ∀ x,(f x).length=2): ∀ (l:List α) (i:Nat) (x:α) (u v:Value),f x=[u,v]->i<l.length->
 ((l.flatMap f).toArray.setIfInBounds (i*2) u).setIfInBounds (i*2+1) v=((l.set i x).flatMap f).toArray:=by
 intro l i x u v hx hi;apply Array.ext';apply List.ext_getElem?;intro j;have hl:=dv hf l;have hl2:=dv hf (l.set i x);rw[List.length_set] at hl2;by_cases hj:j<l.length*2
 .have h1:=nY hf l (j / 2) (j % 2) (by omega) (by omega);have h2:=nY hf (l.set i x) (j / 2) (j % 2) (by rw[List.length_set];omega) (by omega);rw[show j / 2*2+j % 2=j by omega] at h1 h2;simp only[List.setIfInBounds_toArray,List.getElem?_set,List.length_set,hl];rw[h2,h1,List.getElem_set];by_cases e:i=j / 2
  .rw[if_pos e,hx];rcases Nat.mod_two_eq_zero_or_one j with q | q
   .rw[if_neg (by omega),if_pos (by omega),if_pos (by omega),q];rfl
   .rw[if_pos (by omega),if_pos (by omega),q];rfl
  .rw[if_neg e,if_neg (by omega),if_neg (by omega)]
 .simp only[List.setIfInBounds_toArray];rw[List.getElem?_eq_none (by simp only[List.length_set];omega),List.getElem?_eq_none (by omega)]
def Dp (l:List UInt8) (A:Option Addr) (w:World) (e:Ending) (w':World):Prop:=
 ∃ v,e = .returned v/\w'.ownsRow w.heap.size 5 1 v l.length (l.map bv)/\(v = .slice none 0 0↔A=none)/\ao No w w'
theorem ez (A:Option Addr) (c:Nat) (l:List UInt8) (w:World) (h:Rd w A l) (hl:l.length<=140737488355328):
 Calls Tryz.prog 104 #[.slice A l.length c] w (Dp l A w):=by
 have hmax:l.length<=maxLen:=by unfold maxLen;omega
 rcases A with _ | ad
 .have hl0:l=[]:=by
   rcases l with _ | ⟨x,l⟩
   .rfl
   .obtain⟨b,o,e,_⟩:=h (by simp);cases e
  subst hl0;have hnil:=fun (W:World) (A:Option Addr) (n c:Nat)=>Lib.run_eql_slice_nil (P:= Tryz.prog) W 41 5 A n c 0 0 Tryz.underlying41
  go_enter Tryz.func104, Tryz.ntmps104;go_wp2;go_ret;exact⟨_,rfl,World.ownsRow_nil _ _ _ _,by simp,ao.refl _ _⟩
 .obtain⟨i0,hi,hz0,hz1,hz2⟩:=info_parts iw;have hnil:=fun (W:World) (A:Option Addr) (n c:Nat)=>Lib.run_eql_slice_nil (P:= Tryz.prog) W 41 5 A n c 0 0 Tryz.underlying41
  go_enter Tryz.func104, Tryz.ntmps104;have HL:=ah h;clear h;go_wp2_with (at_builtin;refine fo rfl (.tmp 5) (.tmp 6) 41 rfl w.heap.size 5 i0 _ 1 1 Tryz.underlying41 hi hz0 hz1 hz2 rfl (by decide) (.slice (some ⟨w.heap.size,0,none⟩) 0 0) 0 [] rfl (AW w 5 #[] (Nat.zero_le _)) (some ad) l.length c (l.map bv) rfl ((HL.o).alloc _) (by simp) (dR l) (by omega) (by omega) (by simp) ?_;intro v1 w1 hap);go_ret;have hown:=hap.own;have hn:=hap.nil;refine⟨v1,rfl,by simpa using hown,by simpa using hn,hap.JC ((ao.refl No w).alloc _) (AW w 5 #[] (Nat.zero_le _)) (Nat.le_refl _)⟩
theorem oQ:(Tryz.prog.info? 41).map (fun i=>(i.zero,i.size,i.bytes))=some (some (.slice none 0 0),1,24):=by kernel_rfl
theorem uN {w:World} {base e n:Nat} {v:Value} {xs:List Value} (h:w.ownsRow base e 1 v n xs) {g:Nat} (hg:v.ownBlock=some g): ∃ cur,At w g e cur:=by
 rcases h.2 with ⟨rfl,_⟩ | ⟨g',cap,cur,rfl,_,hh,_⟩
 .simp[Value.ownBlock] at hg
 .simp[Value.ownBlock] at hg;subst hg;exact⟨cur,hh⟩
theorem FL {w:World} {base e n iO e' n':Nat} {v v':Value} {xs xs':List Value} (h:w.ownsRow base e 1 v n xs) (h':w.ownsRow iO e' 1 v' n' xs') (hne:e≠e'): ∀ g,v.ownBlock=some g->v'.ownBlock≠some g:=by
 intro g hg hg';obtain⟨c,hc⟩:=uN h hg;obtain⟨c',hc'⟩:=uN h' hg';exact hc.ne hc' hne rfl
theorem iY {w:World} {base iO e size n:Nat} {v:Value} {xs:List Value} (h:w.ownsRow base e size v n xs) (hb:iO<=base):w.ownsRow iO e size v n xs:=by
 refine⟨h.1,?_⟩;rcases h.2 with h2 | ⟨g,cap,cur,e,hg,r⟩
 .exact .inl h2
 .exact .inr ⟨g,cap,cur,e,Nat.le_trans hb hg,r⟩
structure ic (base:Nat) (w:World) (ks:bY):Prop where
 own: ∀ k ∈ ks,w.ownsRow base 5 1 (aI k) k.2.2.length (k.2.2.map bv)
 apart:ks.Pairwise fun a b=> ∀ g,(aI a).ownBlock=some g->(aI b).ownBlock≠some g
structure eT (base:Nat) (w:World) (v:Value) (ks:bY):Prop where
 row:w.ownsRow base 41 1 v ks.length (ks.map aI)
 each:ic base w ks
section
variable {base:Nat} {w w':World} {v:Value} {ks:bY}
theorem ic.nil (base:Nat) (w:World):ic base w []:=⟨by simp,List.Pairwise.nil⟩
theorem eT.nil (base:Nat) (w:World):eT base w (.slice none 0 0) []:=⟨World.ownsRow_nil _ _ _ _,ic.nil _ _⟩
theorem ic.aL {S:Nat->Prop} (h:ic base w ks) (k:ao S w w') (hS: ∀ x ∈ ks, ∀ g,(aI x).ownBlock=some g->¬ S g):ic base w' ks:=
 ⟨fun x hx=>lh (h.own x hx) k (hS x hx),h.apart⟩
theorem ic.new (h:ic base w ks) (k:ao No w w'):ic base w' ks:=h.aL k fun _ _ _ _=>id
theorem eT.new (h:eT base w v ks) (k:ao No w w'):eT base w' v ks:=⟨lh h.row k fun _ _=>id,h.each.new k⟩
theorem ic.mono {iO:Nat} (h:ic base w ks) (hb:iO<=base):ic iO w ks:=by
 refine⟨fun x hx=>?_,h.apart⟩;obtain⟨h1,h2⟩:=h.own x hx;refine⟨h1,?_⟩;rcases h2 with h2 | ⟨g,cap,cur,e,hg,r⟩
 .exact .inl h2
 .exact .inr ⟨g,cap,cur,e,Nat.le_trans hb hg,r⟩
theorem ic.rd (h:ic base w ks) {x:Option Addr × Nat × List UInt8} (hx:x ∈ ks):Rd w x.1 x.2.2:=aF.bG (h.own x hx)
theorem ic.snoc {base2:Nat} (h:ic base w ks) {x:Option Addr × Nat × List UInt8} (hx:w.ownsRow base2 5 1 (aI x) x.2.2.length (x.2.2.map bv)) (hb:base<=base2) (hlt: ∀ k ∈ ks, ∀ g,(aI k).ownBlock=some g->g<base2):ic base w (ks++[x]):=by
 refine⟨fun k hk=>?_,?_⟩
 .rcases List.mem_append.1 hk with h1 | h1
  .exact h.own k h1
  .simp at h1;subst h1;have hm:ic base2 w [k]:=⟨fun y hy=>by simp at hy;subst hy;exact hx,by simp⟩;exact(hm.mono hb).own k (by simp)
 .rw[List.pairwise_append];refine⟨h.apart,by simp,fun a ha b hb' g hg hg'=>?_⟩;simp at hb';subst hb';have h1:=hlt a ha g hg;have h2:=(hx.lt g hg').1;omega
theorem iV (ks:bY): ∀ u ∈ ks.map aI,u.oneCell'=true:=by
 intro u hu;obtain⟨k,_,rfl⟩:=List.mem_map.1 hu;rfl
theorem kt {n:Nat} {l:List UInt8} (h:w.ownsRow base 5 1 v n (l.map bv)): ∃ A c,v = .slice A l.length c/\n=l.length:=by
 have hn:n=l.length:=by simpa using h.1.symm
 subst hn;obtain⟨A,c,rfl,_⟩:=Et h;exact⟨A,c,rfl,rfl⟩
theorem eT.Cg {base2:Nat} {x:Option Addr × Nat × List UInt8} {w1:World} {v':Value} (h:eT base w v ks) (hx:w.ownsRow base2 5 1 (aI x) x.2.2.length (x.2.2.map bv)) (hb:base<=base2)
 (hlt: ∀ k ∈ ks, ∀ g,(aI k).ownBlock=some g->g<base2) (hap:CQ base 41 1 w v ks.length 1 (ks.map aI++[aI x]) v' w1):eT base w1 v' (ks++[x]):=by
 refine⟨by simpa using hap.own,?_⟩;refine(h.each.snoc hx hb hlt).aL hap.aL fun y hy g hg=>?_
 intro e;have hy':=(h.each.snoc hx hb hlt).own y hy;exact FL hy' h.row (by decide) g hg e.symm
end
def ud (l:List UInt8) (w:World) (e:Ending) (w':World):Prop:= ∃ v,e = .returned v/\w'.ownsRow w.heap.size 5 1 v l.length (l.map bv)/\ao No w w'
theorem sa (ks:bY) (k:Nat) (h:k<ks.length):(bK (ks.take (k+1))).flatten=(bK (ks.take k)).flatten++ks[k].2.2:=by
 rw[List.take_succ_eq_append_getElem h,bK,List.map_append,List.flatten_append];simp[bK]
theorem AP (ks:bY) (k:Nat):(bK (ks.take k)).flatten.length<=(bK ks).flatten.length:=by
 conv=>rhs;rw[<-List.take_append_drop k ks]
 rw[bK,bK,List.map_append,List.flatten_append,List.length_append];omega
theorem eG (A:Option Addr) (c:Nat) (ks:bY) (w:World) (h:rm w A ks) (htot:(bK ks).flatten.length<=140737488355328) (hks:ks.length<=140737488355328):
 Calls Tryz.prog 61 #[.slice A ks.length c] w (ud (bK ks).flatten w):=by
 obtain⟨i0,hi,hz0,hz1,hz2⟩:=info_parts iw;have HR:=ah h;have HT:=ah htot;clear h htot;go_enter Tryz.func61, Tryz.ntmps61;go_wp2;go_loopw [3,5,8] (fun v _ i wr=> ∃ k:Nat,k<=ks.length/\i = .int .i64 k/\Hid (wr.ownsRow w.heap.size 5 1 v (bK (ks.take k)).flatten.length ((bK (ks.take k)).flatten.map bv)/\ao No w wr)) (fun _ _ i _=>ks.length - (intOf i).toNat)
 case atStart=>exact⟨0,by omega,rfl,World.ownsRow_nil _ _ _ _,ao.refl _ _⟩
 case round=>
  obtain⟨k,hk,rfl,HD⟩:=hrel;by_cases hlt:k<ks.length
  .obtain⟨⟨b,o,rfl,hc⟩,hx⟩:=(HR.o.new HD.o.2).get hlt;have HX:=ah hx;have HF:=ah (sa ks k hlt);have hle1:=AP ks (k+1);rw[HF.o,List.length_append] at hle1;have L1:Hid ((bK (ks.take k)).flatten.length+ks[k].2.2.length<=140737488355328/\w.heap.size<=wr.heap.size):=⟨by have:=HT.o;omega,HD.o.2.size⟩;clear hx hle1;generalize ks[k]=x at*
   generalize (bK (ks.take k)).flatten=pre at*
   go_wp2_with (at_builtin;refine fo rfl (.tmp 12) (.tmp 13) 41 rfl w.heap.size 5 i0 _ 1 1 Tryz.underlying41 hi hz0 hz1 hz2 rfl (by decide) u3 pre.length (pre.map bv) rfl HD.o.1 x.1 x.2.2.length x.2.1 (x.2.2.map bv) rfl HX.o (by simp) (dR _) (by have:=L1.o.1;unfold maxLen;omega) (by have:=L1.o.1;omega) L1.o.2 ?_;intro v3 w3 hap;have HA:=ah hap;clear hap);go_roundw
   case rel=>
    refine⟨k+1,by omega,by go_num,?_,HA.o.JC HD.o.2 HD.o.1 (Nat.le_refl _)⟩;rw[HF.o,List.map_append,List.length_append];exact HA.o.own
   case measure=>simp[intOf];omega
  .have ht:ks.take k=ks:=List.take_of_length_le (by omega);rw[ht] at HD;clear ht;go_wp2_with fail;go_ret;exact⟨_,rfl,HD.o.1,HD.o.2⟩
theorem Bf (l m:List UInt8):((ByteArray.mk l.toArray).toList==(ByteArray.mk m.toArray).toList)=decide (l=m):=by
 by_cases h:l=m
 .subst h;simp
 .simp[h]
theorem oU (l m:List UInt8): ∃ (SA SB:ByteArray) (B:Bool),SA=ByteArray.mk l.toArray/\SB=ByteArray.mk m.toArray/\(SA.toList==SB.toList)=B/\B=decide (l=m):=⟨_,_,_,rfl,rfl,rfl,Bf l m⟩
theorem dy {w:World} {A:Option Addr} {l:List UInt8} (h:Rd w A l) (c:Nat):(convert 41 9 (.slice A l.length c)).run Tryz.prog w = .ok (.string ⟨l.toArray⟩) w:=
 h.str (P:= Tryz.prog) 41 9 5 Tryz.underlying41 Tryz.underlying5 Tryz.underlying9 c
def dF (k e:Int):Nat:=((max (k*e) 64+7) / 8).toNat
theorem iJ (k e:Int) (h:0<=k/\k<=65536/\1<=e/\e<=32):(0<=k*e/\k*e<=2097152)/\8<=dF k e/\dF k e<=262144:=by
 obtain⟨h1,h2,h3,h4⟩:=h;have a1:0<=k*e:=Int.mul_nonneg h1 (by omega);have a2:k*e<=65536*32:=Int.mul_le_mul h2 h4 (by omega) (by omega);have a3:k*e<=2097152:=by omega
 refine⟨⟨a1,a3⟩,?_⟩;unfold dF;omega
theorem EG (k e:Int) (w:World) (h:0<=k/\k<=65536/\1<=e/\e<=32):
 Calls Tryz.prog 198 #[.int .i64 k,.int .i64 e] w fun x w'=>x = .returned (.tuple #[.int .i64 (8*(dF k e:Int)),.int .i64 0])/\w=w':=by
 obtain⟨hm,h8,_⟩:=iJ k e h;refine(GW k e w h hm).mono fun x w' hx=>?_
 obtain⟨rfl,rfl⟩:=hx;have:(max (k*e) 64+7) / 8*8=8*(dF k e:Int):=by unfold dF;omega
 exact⟨by rw[this],rfl⟩
theorem xk (n:Nat) (hn:n<=262145) (W:World):(Instr.makeSlice 41 (.int .i64 (n:Int)) (.int .i64 (n:Int))).run Tryz.prog W=
 .ok (.slice (some ⟨W.heap.size,0,none⟩) n n) (W.alloc (.cells (madeCells #[.int .u8 0] n) 5)):=by
 obtain⟨i0,hi,hz0,hz1,hz2⟩:=info_parts iw;have hr:=run_make (P:= Tryz.prog) W 41 5 i0 _ Tryz.underlying41 hi hz0 .i64 .i64 n n (by omega) (Int.le_refl _) (by rw[hz2];omega) (by omega);have hc:(Value.int .u8 0).cells = #[.int .u8 0]:=rfl;simpa [hz1,hc] using hr
def I7 (n:Nat) (w:World) (x:Ending) (w':World):Prop:=
 ∃ g h,x = .returned (.tuple #[.pointer (some ⟨g,0,none⟩),.int .i64 0])/\dL w' g h n n (List.replicate n 0)/\w.heap.size<=g/\w.heap.size<=h/\ao No w w'
theorem Gv (k e:Int) (w:World) (h:0<=k/\k<=65536/\1<=e/\e<=32):
 Calls Tryz.prog 181 #[.int .i64 k,.int .i64 e] w (I7 (dF k e) w):=by
 have HS:=ah (fun w=>EG k e w h);obtain⟨_,h8,h9⟩:=iJ k e h;clear h;generalize dF k e=n at HS h8 h9;have hmk:=fun W=>xk n (by omega) W
 have hq:8*(n:Int) / 8=(n:Int):=by omega
 go_enter Tryz.func181, Tryz.ntmps181;go_wp2_with (go_at_call 198;refine(HS.o _).mono ?_;rintro e w' ⟨rfl,rfl⟩);go_ret2;refine⟨w.heap.size+1,w.heap.size,rfl,⟨by simpa using At.new (w.alloc _) _ _,_,(At.new w _ _).alloc _,by simp,by simp[madeCells],fun j hj=>?_⟩,by omega,by omega,(((ao.refl No w).alloc _).alloc _)⟩;simp at hj;simp[madeCells,hj,bv,Nat.mod_one]
theorem FI (bx g h n c p:Nat) (B:List UInt8) (w:World) (a b:Int) (hF:dL w g h n c B) (hbx:w.cell? ⟨bx,0,none⟩=some (.pointer (some ⟨g,0,none⟩)))
 (hp:p / 8<B.length) (hmax:B.length<=262144) (ha:a=((p / 8:Nat):Int)) (hb:b=((mask p).toNat:Int)):
 Calls Tryz.prog 200 #[.int .i64 a,.int .u8 b,.pointer (some ⟨bx,0,none⟩)] w fun e w'=>e = .returned (.bool true)/\(dL w' g h n c (nG B p)/\ao (One h) w w'):=by
 subst ha;subst hb;have h2:=hF.head;have h3:=hF.bit hp;have h4:=hF.free (p / 8);have hset:=hF.set (p / 8) hp (B[p / 8] ||| mask p);have hlen:=hF.len;have hpn:p / 8<n:=by omega
 have hn:n<=262144:=by omega
 have hval:bv (B[p / 8] ||| mask p) = .int .u8 (bits .or .u8 (B[p / 8].toNat:Int) ((mask p).toNat:Int)):=by
  rw[u8_or_nat _ _ (by have:=B[p / 8].toNat_lt;omega) (by have:=(mask p).toNat_lt;omega)];simp[bv]
 have hsb:nG B p=B.set (p / 8) (B[p / 8] ||| mask p):=by simp[nG,List.getD_eq_getElem?_getD,hp]
 rw[hval, <-hsb] at hset;have HF:=ah hset;clear hset hval hsb hF hlen;generalize B[p / 8]=x at*
 generalize p / 8=j at*
 generalize mask p=m at*
 go_enter Tryz.func200, Tryz.ntmps200;go_wp2;go_ret;exact⟨rfl,HF.o,(ao.refl (One h) w).setCell (p:=⟨h,j,none⟩) (fun _=>rfl) _⟩
theorem Fu (bx g h n c kc:Nat) (B key:List UInt8) (A:Option Addr) (w:World) (hF:dL w g h n c B) (hbx:w.cell? ⟨bx,0,none⟩=some (.pointer (some ⟨g,0,none⟩))) (hne:bx≠h)
 (hn:8<=n/\n<=262144) (hk:Rd w A key) (hl:key.length<=140737488355328):
 Calls Tryz.prog 199 #[.pointer (some ⟨g,0,none⟩),.slice A key.length kc,.func (.func 200) #[] #[.pointer (some ⟨bx,0,none⟩)]] w
  fun e w'=>e = .returned (.bool true)/\(dL w' g h n c (addKey B key)/\ao (One h) w w'):=by
 have hlen:=hF.len;refine(DL g h n c 200 (.pointer (some ⟨bx,0,none⟩)) (fun k W=>dL W g h n c (tm B key k)/\W.cell? ⟨bx,0,none⟩=some (.pointer (some ⟨g,0,none⟩))/\ao (One h) w W) (fun _=>true) A kc key w hn (by omega)
  Tryz.call200 (fun k W hs=>hs.1.head) hk ?_ ⟨hF,hbx,ao.refl _ _⟩).mono ?_
 .rintro k W a b hk4 ⟨h1,h2,h3⟩ ha hb;have hp:=zx key k n (by omega);refine(FI bx g h n c _ _ W a b h1 h2 (by rw[fZ];omega) (by rw[fZ];omega) ha hb).mono ?_;rintro e W' ⟨rfl,h4,h5⟩;refine⟨rfl,?_,h5.cell h2 (fun e=>hne e),h3.tr h5⟩;rw[tm, <-hlen];exact h4
 .rintro e w' ⟨rfl,k,⟨h1,_,h3⟩,hk4⟩;have:=hk4 rfl;subst this;exact⟨rfl,h1,h3⟩
def J2 (g h n c:Nat) (B:List UInt8) (w:World) (e:Ending) (w':World):Prop:=e = .returned (.tuple #[])/\dL w' g h n c B/\ao (One h) w w'
theorem GU (g h n c kc:Nat) (B:List UInt8) (A:Option Addr) (ks:bY) (w:World) (hF:dL w g h n c B) (hn:8<=n/\n<=262144) (hk:JJ (One h) w (rm · A ks))
 (hl: ∀ k ∈ ks,k.2.2.length<=140737488355328) (hks:ks.length<=140737488355328):
 Calls Tryz.prog 182 #[.pointer (some ⟨g,0,none⟩),.slice A ks.length kc] w (J2 g h n c (iE B (bK ks)) w):=by
 have HF:=ah hF;have HK:=ah hk;have HL:=ah hl;have HN:=ah hn;have HH:=ah hF.lt;clear hF hk hl hn;go_enter Tryz.func182, Tryz.ntmps182;go_wp2;go_loopw [5,8] (fun _ i wr=> ∃ k:Nat,k<=ks.length/\i = .int .i64 k/\Hid (dL wr g h n c (iE B (bK (ks.take k)))/\wr.cell? ⟨w.heap.size,0,none⟩=some (.pointer (some ⟨g,0,none⟩))/\ao (One h) w wr)) (fun _ i _=>ks.length - (intOf i).toNat)
 case atStart=>exact⟨0,by omega,rfl,HF.o.new ((ao.refl No w).alloc _),by simp[At.new w _ _ |>.cell],(ao.refl _ w).alloc _⟩
 case round=>
  obtain⟨k,hk,rfl,HR⟩:=hrel;by_cases hlt:k<ks.length
  .obtain⟨⟨b,o,hA,hc⟩,hrd⟩:=(HK.o wr HR.o.2.2).get hlt;subst hA;have hbx:=HR.o.2.1;have HD:=ah hrd;have HT:Hid (iE B (bK (ks.take (k+1)))=addKey (iE B (bK (ks.take k))) ks[k].2.2):=by
    rw[List.take_succ_eq_append_getElem hlt,bK,List.map_append];exact rh _ _ _
   have HX:=ah (HL.o ks[k] (List.getElem_mem hlt));clear hrd;generalize ks[k]=x at*
   go_wp2_with fail;refine(Fu w.heap.size g h n c _ _ _ _ wr HR.o.1 hbx (by have:=HH.o.2;omega) HN.o HD.o HX.o).mono ?_;rintro e W' ⟨rfl,h1,h2⟩;have H1:=ah h1;have H2:=ah h2;clear h1 h2;go_wp2;go_roundw
   case rel=>exact⟨k+1,by omega,by go_num,by rw[HT.o];exact H1.o,H2.o.cell hbx (by have:=HH.o.2;unfold One;simp;omega),HR.o.2.2.tr H2.o⟩
   case measure=>simp[intOf];omega
  .have ht:ks.take k=ks:=List.take_of_length_le (by omega);rw[ht] at HR;clear ht;go_wp2;go_end0
   exact⟨rfl,HR.o.1,HR.o.2.2⟩
def Told (B:List UInt8) (w:World) (e:Ending) (w':World):Prop:=
 ∃ x cap cur,e = .returned (.slice (some ⟨x,0,none⟩) B.length cap)/\w.heap.size<=x/\At w' x 5 cur/\cur.size=cap/\B.length<=cap/\cap<=maxLen/\(∀ j (hj:j<B.length),cur[j]?=some (bv B[j]))/\ao No w w'
theorem qi {A:Option Addr} {l:List UInt8} {w w':World} {e:Ending} (h:Dp l A w e w') (hA:A≠none):Told l w e w':=by
 obtain⟨v,rfl,h1,h2,h3⟩:=h;obtain⟨g,cap,cur,rfl,k1,k2,k3,k4,k5,k6⟩:=pG h1 (fun e=>hA (h2.1 e));exact⟨g,cap,cur,rfl,k1,k2,k5,k3,k4,fun j hj=>by rw[k6 j (by simpa using hj)];simp,h3⟩
theorem zk (g h n c:Nat) (B:List UInt8) (w:World) (hF:dL w g h n c B) (hn:8<=n/\n<=262144):
 Calls Tryz.prog 180 #[.pointer (some ⟨g,0,none⟩)] w (Told B w):=by
 have hc:=hF.head;have hlen:=hF.len;subst hlen;obtain⟨hn1,hn2⟩:=hn;have HR:=ah hF.rd;clear hF;go_enter Tryz.func180, Tryz.ntmps180;go_wp2_with fail;refine(ez _ c B w HR.o (by omega)).mono ?_;intro e w' hh;obtain⟨x,cap,cur,rfl,hx⟩:=qi hh (by simp);have HX:=ah hx;clear hx hh;go_wp2;go_ret;exact⟨x,cap,cur,rfl,HX.o⟩
theorem xP (n w:Int) (hw:0<w):(if n.tmod w<0 then n.tmod w+w else n.tmod w)=n % w:=by
 have h1:=Int.emod_nonneg n (show w≠0 by omega);have h2:=Int.emod_lt_of_pos n hw;rw[Int.tmod_eq_emod];by_cases h:0<=n\/w ∣ n
 .rw[if_pos h];split<;>omega
 .rw[if_neg h];have hz:n % w≠0:=fun e=>h (.inr (Int.dvd_of_emod_eq_zero e))
  have ha:(w.natAbs:Int)=w:=by omega
  split<;>omega
theorem uX (n lo hi:Int) (w:World) (h0:0<=lo) (h1:lo<=hi) (h2:hi<=1099511627776):
 Calls Tryz.prog 27 #[.int .i64 n,.int .i64 lo,.int .i64 hi] w fun e w'=>e = .returned (.int .i64 (lo+n % (hi - lo+1)))/\w=w':=by
 have hm:=xP n (hi - lo+1) (by omega);have b1:=Int.emod_nonneg n (show hi - lo+1≠0 by omega);have b2:=Int.emod_lt_of_pos n (show 0<hi - lo+1 by omega);by_cases hn:0<=n
 .clear hm;go_enter Tryz.func27, Tryz.ntmps27;go_wp2;go_ret;exact⟨rfl,rfl⟩
 .by_cases hr:n.tmod (hi - lo+1)<0
  .rw[if_pos hr] at hm;have hlo: -(hi - lo+1)<=n.tmod (hi - lo+1):=by omega
   have H:=ah hm;clear hm;go_enter Tryz.func27, Tryz.ntmps27;go_wp2;go_ret;exact⟨by rw[<-H.o];rfl,rfl⟩
  .rw[if_neg hr] at hm;have hlo:n.tmod (hi - lo+1)<=hi - lo:=by omega
   have H:=ah hm;clear hm;go_enter Tryz.func27, Tryz.ntmps27;go_wp2;go_ret;exact⟨by rw[<-H.o];rfl,rfl⟩
def wi (n hi:Int):Nat:=(n % (hi+1)).toNat
theorem JL (n hi:Int) (h:0<=hi):(wi n hi:Int)<=hi:=by
 have h1:=Int.emod_nonneg n (show hi+1≠0 by omega);have h2:=Int.emod_lt_of_pos n (show 0<hi+1 by omega);unfold wi;omega
theorem H8 (n hi:Int) (w:World) (h1:0<=hi) (h2:hi<=1099511627776):
 Calls Tryz.prog 27 #[.int .i64 n,.int .i64 0,.int .i64 hi] w fun e w'=>e = .returned (.int .i64 (wi n hi))/\w=w':=by
 have h:=uX n 0 hi w (by omega) h1 h2;have h3:=Int.emod_nonneg n (show hi+1≠0 by omega);have e:0+n % (hi - 0+1)=(wi n hi:Int):=by
  have e1:hi - 0+1=hi+1:=by omega
  rw[e1];unfold wi;omega
 rwa [e] at h
theorem yW (a:Int) (m:Nat) (hm:m<9223372036854775808):0<=bits .and .i64 a (m:Int)/\bits .and .i64 a (m:Int)<=m:=by
 have hb:(BitVec.ofInt 64 (m:Int)).toNat=m:=by
  rw[BitVec.ofInt_natCast,BitVec.toNat_ofNat];exact Nat.mod_eq_of_lt (by omega)
 have e:bits .and .i64 a (m:Int)=IntKind.i64.wrap ((BitVec.ofInt 64 a &&& BitVec.ofInt 64 (m:Int)).toNat:Int):=rfl;rw[e,BitVec.toNat_and,hb,IntKind.wrap_i64];have:=Nat.and_le_right (n:=(BitVec.ofInt 64 a).toNat) (m:=m);omega
def kJ (n:Int):Int:=if 0<=n then (bh n.toNat:Int) else 0
theorem qj (n:Int) (w:World) (hn: -9223372036854775808<=n/\n<=9223372036854775807):
 Calls Tryz.prog 116 #[.int .i64 n] w fun e w'=>e = .returned (.int .i64 (kJ n))/\w=w':=by
 by_cases h0:n<0
 .have e:kJ n=0:=if_neg (show ¬ 0<=n by omega);have H:=ah e;clear e;go_enter Tryz.func116, Tryz.ntmps116;go_wp2;go_ret;exact⟨by rw[H.o];rfl,rfl⟩
 by_cases h1:262144<n
 .have e:kJ n=0:=by rw[kJ,if_pos (by omega),bh,if_neg (by omega)];rfl
  have H:=ah e;clear e;go_enter Tryz.func116, Tryz.ntmps116;go_wp2;go_ret;exact⟨by rw[H.o];rfl,rfl⟩
 have e:kJ n=max ((n+478) / 479) 1:=by rw[kJ,if_pos (by omega),bh,if_pos (by omega)];omega
 obtain⟨hn1,hn2⟩:=hn;by_cases h2:n=0
 .subst h2;have H:=ah e;clear e;go_enter Tryz.func116, Tryz.ntmps116;go_wp2;go_ret;exact⟨by rw[H.o];rfl,rfl⟩
 .have h3:1<=(n+478) / 479:=by omega
  have e2:max ((n+478) / 479) 1=(n+478) / 479:=by omega
  have h4:0<=n:=by omega
  rw[e2] at e;have H:=ah e;clear e e2;go_enter Tryz.func116, Tryz.ntmps116;go_wp2;go_ret;refine⟨?_,rfl⟩;rw[H.o];have e:n+479 - 1=n+478:=by omega
  rw[<-e];rfl
def qK (b:List UInt8) (w:World) (e:Ending) (w':World):Prop:= ∃ v rs,e = .returned v/\bK rs=split b/\eT w.heap.size w' v rs/\ao No w w'
theorem uM:bits .or .u8 0 1=1:=by decide
theorem Eg:bits .or .u8 0 2=2:=by decide
theorem vZ:bits .or .u8 1 2=3:=by decide
def sW (k:Nat):Int:=if k=0 then 1 else 0
theorem FD {k:Nat} (h:¬ k=0):sW k=0:=if_neg h
theorem F2 {k N:Nat} (h:k+1=N):bits .or .u8 (sW k) 2=((bQ k N).toNat:Int):=by
 unfold sW bQ;by_cases h0:k=0
 .rw[if_pos h0,if_pos h0,if_pos h];decide
 .rw[if_neg h0,if_neg h0,if_pos h];decide
theorem Gk {k N:Nat} (h:¬ k+1=N):sW k=((bQ k N).toNat:Int):=by
 unfold sW bQ;by_cases h0:k=0
 .rw[if_pos h0,if_pos h0,if_neg h];decide
 .rw[if_neg h0,if_neg h0,if_neg h];decide
set_option maxRecDepth 10000 in
theorem Da (A:Option Addr) (c:Nat) (b:List UInt8) (w:World) (h:Rd w A b) (hc:b.length<=c) (hmax:c<=9223372036854775807) (hb:b.length<=262144) (hpos:0<c):
 Calls Tryz.prog 119 #[.slice A b.length c] w (qK b w):=by
 obtain⟨i0,hi,hz0,hz1,hz2⟩:=info_parts oQ;have HR:=ah h;have hN1:=sZ b.length hb;have hN2:=pa b.length;have hN3:=kH b.length hb;have hN4:(bh b.length - 1)*479<=b.length/\(1<bh b.length->(bh b.length - 1)*479<b.length):=by unfold bh;rw[if_pos hb];omega
 have HNd:Hid (∀ i,frame b i=bQ i (bh b.length)::piece b i):=fun _=>rfl
 have HS:Hid (split b=(List.range (bh b.length)).map (frame b)):=rfl;have HNeed:Hid (∀ W,Calls Tryz.prog 116 #[.int .i64 b.length] W fun e w'=>e = .returned (.int .i64 (bh b.length))/\W=w'):=fun W=>by
  have:=qj (b.length:Int) W (by omega);have e:kJ (b.length:Int)=(bh b.length:Int):=by rw[kJ,if_pos (by omega),Int.toNat_natCast]
  rwa [e] at this
 clear h;generalize bh b.length=N at*
 have o1:=uM;have o2:=Eg;have o3:=vZ;go_enter Tryz.func119, Tryz.ntmps119;go_wp2_with fail;refine(HNeed.o w).mono ?_;rintro e w1 ⟨rfl,rfl⟩;go_wp2_with fail;go_loopw [4,5,6,11] (fun v _ _ i wr=> ∃ k:Nat,k<=N/\i = .int .i64 k/\ ∃ rs,Hid (bK rs=(List.range k).map (frame b)/\rs.length=k/\eT w.heap.size wr v rs/\ao No w wr)) (fun _ _ _ i _=>N - (intOf i).toNat)
 case atStart=>exact⟨0,by omega,rfl,[],rfl,rfl,eT.nil _ _,ao.refl _ _⟩
 case round=>
  obtain⟨k,hk,rfl,rs,HD⟩:=hrel;by_cases hlt:k<N
  .have HH:=ah hN4;have HH3:=ah hN3;have HHc:=ah hc;have HHb:=ah hb;clear hN3 hN4 hc hb;go_upto_if 15 with fail
   go_cut [6] (fun s wx=>s = .int .u8 (sW k)/\Hid (wx=wr))
   case first=>
    by_cases h0:k=0
    .subst h0;go_wp2_with fail;go_meet
     exact⟨rfl,rfl⟩
    .have q0:((k:Int)==0)=false:=by rw[beq_eq_false_iff_ne];omega
     have HF:=ah (FD h0);clear h0;go_wp2_with fail;go_meet
     exact⟨by rw[HF.o],rfl⟩
   case rest=>
    obtain⟨rfl,HW⟩:=hcut;obtain rfl:=HW.o;go_upto_if 21 with fail
    go_cut [6] (fun s wx=>s = .int .u8 ((bQ k N).toNat:Int)/\Hid (wx=wc))
    case first=>
     by_cases h1:k+1=N
     .have q1:((k:Int)==(N:Int) - 1)=true:=by rw[beq_iff_eq];omega
      have HF:=ah (F2 h1);clear h1;go_wp2_with fail;go_meet
      exact⟨by rw[<-HF.o],rfl⟩
     .have q1:((k:Int)==(N:Int) - 1)=false:=by rw[beq_eq_false_iff_ne];omega
      have HF:=ah (Gk h1);clear h1;go_wp2_with fail;go_meet
      exact⟨by rw[<-HF.o],rfl⟩
    case rest=>
     obtain⟨rfl,HW2⟩:=hcut;have hw2:=HW2.o;subst hw2;have hlo:(k:Int)*479<=b.length:=by have:=HH.o;have:=Nat.mul_le_mul_right 479 (show k<=N - 1 by omega);omega
     have hlc:(k:Int)*479<=c:=by have:=HHc.o;omega
     have HJ:Hid (∀ (A2:Option Addr) (n2 C2:Nat),n2=(piece b k).length->Rd w A2 (piece b k)->
      Calls Tryz.prog 61 #[.slice (some ⟨wc.heap.size+1,0,none⟩) 2 2] ((wc.alloc (.cells #[.int .u8 ((bQ k N).toNat:Int)] 5)).alloc (.cells #[.slice (some ⟨wc.heap.size,0,none⟩) 1 1,.slice A2 n2 C2] 41))
       (ud (frame b k) ((wc.alloc (.cells #[.int .u8 ((bQ k N).toNat:Int)] 5)).alloc (.cells #[.slice (some ⟨wc.heap.size,0,none⟩) 1 1,.slice A2 n2 C2] 41)))):=by
      intro A2 n2 C2 hn hrd;subst hn;have hpl:=nK b k;have ht:(bK [((some ⟨wc.heap.size,0,none⟩:Option Addr),1,[bQ k N]),(A2,C2,piece b k)]).flatten=frame b k:=by rw[HNd.o k];simp[bK]
      rw[<-ht];refine eG _ 2 [((some ⟨wc.heap.size,0,none⟩:Option Addr),1,[bQ k N]),(A2,C2,piece b k)] _ ⟨?_,?_⟩ ?_ (by simp)
      .have:=aF.lit (wc.alloc (.cells #[.int .u8 ((bQ k N).toNat:Int)] 5)) #[.slice (some ⟨wc.heap.size,0,none⟩) 1 1,.slice A2 (piece b k).length C2] 41 (0,0);simpa [aI] using this
      .intro x hx;simp at hx;rcases hx with rfl | rfl
       .have h1:aF (wc.alloc (.cells #[.int .u8 ((bQ k N).toNat:Int)] 5)) (some ⟨wc.heap.size,0,none⟩) [bv (bQ k N)]:=aF.lit wc #[.int .u8 ((bQ k N).toNat:Int)] 5 (0,0);exact h1.alloc _
       .exact((hrd.new HD.o.2.2.2).alloc _).alloc _
      .simp[bK,hpl];have:=HHb.o;omega
     have HP1:Hid (¬ c=k*479->Rd w (A.map fun x=>x.add (k*479)) (piece b k)):=fun hck=>by
      have:=(HR.o.take (min ((k+1)*479) b.length)).drop (k:=k*479) (cap:=c) (by rw[List.length_take];omega) (by rw[List.length_take];have:=HHc.o;omega);rwa [if_neg hck] at this
     have HP2:Hid (c=k*479->Rd w A (piece b k)):=fun hck=>by
      have:=(HR.o.take (min ((k+1)*479) b.length)).drop (k:=k*479) (cap:=c) (by rw[List.length_take];omega) (by rw[List.length_take];have:=HHc.o;omega);rwa [if_pos hck] at this
     have HL:=ah (nK b k);have hcl:=HHc.o;have hkc:(k:Int)*479<c:=by
      have h1:=HH.o;have h2:=Nat.mul_le_mul_right 479 (show k<=N - 1 by omega);rcases Nat.lt_or_ge 1 N with h3 | h3
      .have:=h1.2 h3;omega
      .have:k=0:=by omega
       subst this;omega
     by_cases hm:((k:Int)+1)*479<=(b.length:Int)
     .have hcc:((k:Int)+1)*479<=c:=by omega
      go_wp2_with fail
      all_goals
       refine(HJ.o _ _ _ (by have:=HL.o;omega) (by first | exact HP1.o (by omega) | exact HP2.o (by omega))).mono ?_;rintro e w2 ⟨v2,rfl,h2,k2⟩;obtain⟨A2,c2,rfl,_⟩:=kt h2;have kk:=(((ao.refl No wc).alloc (.cells #[.int .u8 ((bQ k N).toNat:Int)] 5)).alloc _).tr k2;have h2':=lh h2 ((ao.refl No w2).alloc (.cells #[.slice A2 (frame b k).length c2] 41)) (fun _ _=>id);have H2:=ah (iY (iO:=wc.heap.size+2) h2' (by simp));have K2:=ah ((HD.o.2.2.2.tr kk).alloc (.cells #[.slice A2 (frame b k).length c2] 41));have O2:=ah ((HD.o.2.2.1.new kk).new ((ao.refl No w2).alloc (.cells #[.slice A2 (frame b k).length c2] 41)));have D2:Hid (∀ y ∈ rs, ∀ g,(aI y).ownBlock=some g->g<wc.heap.size+2):=fun y hy g hg=>by have:=((HD.o.2.2.1.each.own y hy).lt g hg).2;omega
       have L2:Hid (rs.length+1<=1000000/\w.heap.size<=wc.heap.size+2/\w.heap.size<=(w2.alloc (.cells #[.slice A2 (frame b k).length c2] 41)).heap.size):=⟨by have:=HD.o.2.1;omega,by have:=HD.o.2.2.2.size;omega,K2.o.size⟩;clear h2 h2' k2 kk;go_wp2_with (at_builtin;refine fo rfl (.tmp 24) (.tmp 39) 87 rfl w.heap.size 41 i0 _ 1 24 Tryz.underlying87 hi hz0 hz1 hz2 rfl (by decide) u4 rs.length (rs.map aI) rfl O2.o.row (some ⟨w2.heap.size,0,none⟩) 1 1 [aI (A2,c2,frame b k)] rfl (aF.lit w2 #[.slice A2 (frame b k).length c2] 41 (0,0)) rfl (iV [(A2,c2,frame b k)]) (by have:=L2.o.1;unfold maxLen;omega) (by have:=L2.o.1;omega) L2.o.2.2 ?_;intro v3 w3 hap;have HA:=ah hap;clear hap);go_roundw
       case rel=>
        refine⟨k+1,by omega,by go_num,rs++[(A2,c2,frame b k)],?_,by simp[HD.o.2.1],O2.o.Cg H2.o L2.o.2.1 D2.o HA.o,HA.o.JC K2.o O2.o.row (Nat.le_refl _)⟩;rw[List.range_succ,List.map_append, <-HD.o.1,bK,List.map_append];rfl
       case measure=>simp[intOf];omega
     .have hm':(b.length:Int)<((k:Int)+1)*479:=by omega
      go_wp2_with fail
      all_goals
       refine(HJ.o _ _ _ (by have:=HL.o;omega) (by first | exact HP1.o (by omega) | exact HP2.o (by omega))).mono ?_;rintro e w2 ⟨v2,rfl,h2,k2⟩;obtain⟨A2,c2,rfl,_⟩:=kt h2;have kk:=(((ao.refl No wc).alloc (.cells #[.int .u8 ((bQ k N).toNat:Int)] 5)).alloc _).tr k2;have h2':=lh h2 ((ao.refl No w2).alloc (.cells #[.slice A2 (frame b k).length c2] 41)) (fun _ _=>id);have H2:=ah (iY (iO:=wc.heap.size+2) h2' (by simp));have K2:=ah ((HD.o.2.2.2.tr kk).alloc (.cells #[.slice A2 (frame b k).length c2] 41));have O2:=ah ((HD.o.2.2.1.new kk).new ((ao.refl No w2).alloc (.cells #[.slice A2 (frame b k).length c2] 41)));have D2:Hid (∀ y ∈ rs, ∀ g,(aI y).ownBlock=some g->g<wc.heap.size+2):=fun y hy g hg=>by have:=((HD.o.2.2.1.each.own y hy).lt g hg).2;omega
       have L2:Hid (rs.length+1<=1000000/\w.heap.size<=wc.heap.size+2/\w.heap.size<=(w2.alloc (.cells #[.slice A2 (frame b k).length c2] 41)).heap.size):=⟨by have:=HD.o.2.1;omega,by have:=HD.o.2.2.2.size;omega,K2.o.size⟩;clear h2 h2' k2 kk;go_wp2_with (at_builtin;refine fo rfl (.tmp 24) (.tmp 39) 87 rfl w.heap.size 41 i0 _ 1 24 Tryz.underlying87 hi hz0 hz1 hz2 rfl (by decide) u4 rs.length (rs.map aI) rfl O2.o.row (some ⟨w2.heap.size,0,none⟩) 1 1 [aI (A2,c2,frame b k)] rfl (aF.lit w2 #[.slice A2 (frame b k).length c2] 41 (0,0)) rfl (iV [(A2,c2,frame b k)]) (by have:=L2.o.1;unfold maxLen;omega) (by have:=L2.o.1;omega) L2.o.2.2 ?_;intro v3 w3 hap;have HA:=ah hap;clear hap);go_roundw
       case rel=>
        refine⟨k+1,by omega,by go_num,rs++[(A2,c2,frame b k)],?_,by simp[HD.o.2.1],O2.o.Cg H2.o L2.o.2.1 D2.o HA.o,HA.o.JC K2.o O2.o.row (Nat.le_refl _)⟩;rw[List.range_succ,List.map_append, <-HD.o.1,bK,List.map_append];rfl
       case measure=>simp[intOf];omega
  .obtain rfl:k=N:=by omega
   go_wp2_with fail;go_ret;exact⟨_,rs,rfl,by rw[HS.o];exact HD.o.1,HD.o.2.2.1,HD.o.2.2.2⟩
set_option maxRecDepth 10000 in
theorem yj (A:Option Addr) (w:World):
 Calls Tryz.prog 119 #[.slice A 0 0] w (qK [] w):=by
 obtain⟨i0,hi,hz0,hz1,hz2⟩:=info_parts oQ;have HNeed:Hid (∀ W,Calls Tryz.prog 116 #[.int .i64 0] W fun e w'=>e = .returned (.int .i64 1)/\W=w'):=fun W=>by
  have:=qj 0 W (by omega);have e:kJ 0=1:=by decide
  rwa [e] at this
 have HS:Hid (split []=[[3]]):=by unfold Hid;decide
 have o1:=uM;have o3:=vZ;go_enter Tryz.func119, Tryz.ntmps119;go_wp2_with fail;refine(HNeed.o w).mono ?_;rintro e w1 ⟨rfl,rfl⟩;go_wp2_with fail;go_loopw [4,5,6,11] (fun v _ _ i wr=> ∃ k:Nat,k<=1/\i = .int .i64 k/\ ∃ rs,Hid (bK rs=List.replicate k [3]/\rs.length=k/\eT w.heap.size wr v rs/\ao No w wr)) (fun _ _ _ i _=>1 - (intOf i).toNat)
 case atStart=>exact⟨0,by omega,rfl,[],rfl,rfl,eT.nil _ _,ao.refl _ _⟩
 case round=>
  obtain⟨k,hk,rfl,rs,HD⟩:=hrel;by_cases hlt:k<1
  .obtain rfl:k=0:=by omega
   have HJ:Hid (Calls Tryz.prog 61 #[.slice (some ⟨wr.heap.size+1,0,none⟩) 2 2] ((wr.alloc (.cells #[.int .u8 3] 5)).alloc (.cells #[.slice (some ⟨wr.heap.size,0,none⟩) 1 1,.slice A 0 0] 41))
    (ud [3] ((wr.alloc (.cells #[.int .u8 3] 5)).alloc (.cells #[.slice (some ⟨wr.heap.size,0,none⟩) 1 1,.slice A 0 0] 41)))):=by
    refine eG _ 2 [((some ⟨wr.heap.size,0,none⟩:Option Addr),1,[3]),(A,0,[])] _ ⟨?_,?_⟩ (by simp[bK]) (by simp)
    .have:=aF.lit (wr.alloc (.cells #[.int .u8 3] 5)) #[.slice (some ⟨wr.heap.size,0,none⟩) 1 1,.slice A 0 0] 41 (0,0);simpa [aI] using this
    .intro x hx;simp at hx;rcases hx with rfl | rfl
     .have h1:aF (wr.alloc (.cells #[.int .u8 3] 5)) (some ⟨wr.heap.size,0,none⟩) [bv 3]:=aF.lit wr #[.int .u8 3] 5 (0,0);exact h1.alloc _
     .exact Rd.nil _ _
   go_wp2_with fail;refine HJ.o.mono ?_;rintro e w2 ⟨v2,rfl,h2,k2⟩;obtain⟨A2,c2,rfl,_⟩:=kt h2;have kk:=(((ao.refl No wr).alloc (.cells #[.int .u8 3] 5)).alloc _).tr k2;have h2':=lh h2 ((ao.refl No w2).alloc (.cells #[.slice A2 1 c2] 41)) (fun _ _=>id);have H2:=ah (iY (iO:=wr.heap.size+2) h2' (by simp));have K2:=ah ((HD.o.2.2.2.tr kk).alloc (.cells #[.slice A2 1 c2] 41));have O2:=ah ((HD.o.2.2.1.new kk).new ((ao.refl No w2).alloc (.cells #[.slice A2 1 c2] 41)));have D2:Hid (∀ y ∈ rs, ∀ g,(aI y).ownBlock=some g->g<wr.heap.size+2):=fun y hy g hg=>by have:=((HD.o.2.2.1.each.own y hy).lt g hg).2;omega
   have L2:Hid (rs.length+1<=1000000/\w.heap.size<=wr.heap.size+2/\w.heap.size<=(w2.alloc (.cells #[.slice A2 1 c2] 41)).heap.size):=⟨by have:=HD.o.2.1;omega,by have:=HD.o.2.2.2.size;omega,K2.o.size⟩;clear h2 h2' k2 kk;go_wp2_with (at_builtin;refine fo rfl (.tmp 24) (.tmp 39) 87 rfl w.heap.size 41 i0 _ 1 24 Tryz.underlying87 hi hz0 hz1 hz2 rfl (by decide) u4 rs.length (rs.map aI) rfl O2.o.row (some ⟨w2.heap.size,0,none⟩) 1 1 [aI (A2,c2,[3])] rfl (aF.lit w2 #[.slice A2 1 c2] 41 (0,0)) rfl (iV [(A2,c2,[3])]) (by have:=L2.o.1;unfold maxLen;omega) (by have:=L2.o.1;omega) L2.o.2.2 ?_;intro v3 w3 hap;have HA:=ah hap;clear hap);go_roundw
   case rel=>
    refine⟨1,by omega,rfl,rs++[(A2,c2,[3])],?_,by simp[HD.o.2.1],O2.o.Cg H2.o L2.o.2.1 D2.o HA.o,HA.o.JC K2.o O2.o.row (Nat.le_refl _)⟩;have:=HD.o.1;rw[bK,List.map_append];show bK rs++[[3]]=_;rw[this];rfl
   case measure=>simp[intOf]
  .obtain rfl:k=1:=by omega
   go_wp2_with fail;go_ret;exact⟨_,rs,rfl,by rw[HS.o];exact HD.o.1,HD.o.2.2.1,HD.o.2.2.2⟩
theorem BW (A:Option Addr) (c:Nat) (b:List UInt8) (w:World) (h:Rd w A b) (hc:b.length<=c) (hmax:c<=9223372036854775807) (hb:b.length<=262144):
 Calls Tryz.prog 119 #[.slice A b.length c] w (qK b w):=by
 rcases Nat.eq_zero_or_pos c with h0 | h0
 .subst h0;have hb0:b=[]:=List.eq_nil_of_length_eq_zero (by omega);subst hb0;exact yj A w
 .exact Da A c b w h hc hmax hb h0
theorem ou (c m:UInt8):(bits .and .u8 (c.toNat:Int) (m.toNat:Int) !=0)=decide (c &&& m≠0):=by
 rw[u8_and_nat _ _ (by have:=c.toNat_lt;omega) (by have:=m.toNat_lt;omega), <-UInt8.toNat_and];generalize c &&& m=y;rw[Bool.eq_iff_iff,bne_iff_ne,decide_eq_true_iff];constructor
 .rintro h rfl;exact h rfl
 .intro h h0;exact h (UInt8.toNat.inj (by simpa using h0))
def Jq (fs:List (List UInt8)) (w:World) (e:Ending) (w':World):Prop:= ∃ v rs,e = .returned v/\bK rs=whole fs/\eT w.heap.size w' v rs/\ao No w w'
structure Ga (ks:bY) (w wr:World) (k:Nat) (v batch begun:Value) (rs:bY) (cur:Option (List UInt8)):Prop where
 out:eT w.heap.size wr v rs
 aL:ao No w wr
 beg:begun = .bool cur.isSome
 bat: ∀ b,cur=some b->b.length<=(bK (ks.take k)).flatten.length/\ ∃ A c,batch = .slice A b.length c/\Rd wr A b
 say:whole (bK ks)=bK rs++aH cur (bK (ks.drop k))
 len:rs.length<=k
set_option maxRecDepth 10000 in
theorem Ce (A:Option Addr) (c:Nat) (ks:bY) (w:World) (h:rm w A ks) (hcap: ∀ k ∈ ks,k.2.2.length<=k.2.1/\k.2.1<=maxLen) (htot:(bK ks).flatten.length<=140737488355328) (hks:ks.length<=1000000):
 Calls Tryz.prog 111 #[.slice A ks.length c] w (Jq (bK ks) w):=by
 obtain⟨i0,hi,hz0,hz1,hz2⟩:=info_parts oQ;have HR:=ah h;have HT:=ah htot;have HCap:=ah hcap;clear h htot hcap;go_enter Tryz.func111, Tryz.ntmps111;go_wp2;go_loopw [3,4,5,7,10] (fun v batch begun _ i wr=> ∃ k:Nat,k<=ks.length/\i = .int .i64 k/\ ∃ rs cur,Ga ks w wr k v batch begun rs cur) (fun _ _ _ _ i _=>ks.length - (intOf i).toNat)
 case atStart=>exact⟨0,by omega,rfl,[],none,⟨eT.nil _ _,ao.refl _ _,rfl,(fun b h=>by cases h),by simp[bK,whole],by simp⟩⟩
 case round=>
  obtain⟨k,hk,rfl,rs,cur,HD0⟩:=hrel;have HD:=ah HD0;obtain rfl:=HD0.beg;clear HD0;by_cases hlt:k<ks.length
  .obtain⟨⟨b,o,rfl,hc⟩,hx⟩:=(HR.o.new HD.o.aL).get hlt;have HX:=ah hx;have HF:=ah (sa ks k hlt);have HC:=ah (HCap.o ks[k] (List.getElem_mem hlt));have HDr:Hid (bK (ks.drop k)=ks[k].2.2::bK (ks.drop (k+1))):=by rw[List.drop_eq_getElem_cons hlt];rfl
   have hle1:=AP ks (k+1);rw[HF.o,List.length_append] at hle1;have L1:Hid ((bK (ks.take k)).flatten.length+ks[k].2.2.length<=140737488355328):=by have:=HT.o;unfold Hid;omega
   clear hx hle1;generalize ks[k]=x at*
   obtain⟨Ax,cx,fx⟩:=x;rcases fx with _ | ⟨c0,r0⟩
   .go_wp2_with fail;go_ret;refine⟨_,rs,rfl,?_,HD.o.out,HD.o.aL⟩;have h1:=HD.o.say;rw[HDr.o] at h1;rw[h1]
    cases cur<;>simp[aH]
   .obtain⟨b2,o2,e2,hc2⟩:=HX.o.get (j:=0) (by simp);have e2':Ax=some ⟨b2,o2,none⟩:=e2;subst e2';simp only[Nat.add_zero,List.getElem_cons_zero] at hc2;clear e2;by_cases h3:3<c0
    .have h3':(3:Int)<(c0.toNat:Int):=by have:=UInt8.lt_iff_toNat_lt.1 h3;simp at this;omega
     go_wp2_with fail;go_ret;refine⟨_,rs,rfl,?_,HD.o.out,HD.o.aL⟩;have h1:=HD.o.say;rw[HDr.o] at h1;rw[h1]
     cases cur<;>simp[aH,h3]
    .have h3':¬ (3:Int)<(c0.toNat:Int):=by intro h;exact h3 (UInt8.lt_iff_toNat_lt.2 (by simp;omega))
     have hb1:=ou c0 1;have hb2:=ou c0 2;have HB1:Hid ((bits .and .u8 (c0.toNat:Int) 1 !=0)=decide (c0 &&& 1≠0)):=hb1;have HB2:Hid ((bits .and .u8 (c0.toNat:Int) 2 !=0)=decide (c0 &&& 2≠0)):=hb2;have HW:Hid (∀ q fs,aH q ((c0::r0)::fs)=match (if c0 &&& 1≠0 then some [] else q) with
      | none=>aH none fs
      | some b=>if c0 &&& 2≠0 then (b++r0)::aH none fs else aH (some (b++r0)) fs):=fun q fs=>by rw[aH,if_neg h3];rfl
     clear hb1 hb2 h3;obtain⟨cur1,hcur1⟩: ∃ q,q=(if c0 &&& 1≠0 then some [] else cur):=⟨_,rfl⟩;have HQ:=ah hcur1;clear hcur1;have hcx:(c0::r0).length<=cx:=HC.o.1;have hcx2:cx<=9223372036854775807:=HC.o.2;simp only[List.length_cons] at hcx;go_upto_if 27 with fail
     go_cut [4,5] (fun batch begun wx=>begun = .bool cur1.isSome/\Hid (ao No wr wx/\ ∀ b,cur1=some b->b.length<=(bK (ks.take k)).flatten.length/\ ∃ A c,batch = .slice A b.length c/\Rd wx A b))
     case first=>
      by_cases p1:c0 &&& 1≠0
      .have hb:=HB1.o;rw[decide_eq_true p1] at hb;have HQ1:Hid (cur1=some []):=by rw[HQ.o,if_pos p1];rfl
       clear p1;go_wp2_with fail;go_meet
       refine⟨by rw[HQ1.o];rfl,(ao.refl No wr).alloc _,fun b hb'=>?_⟩;rw[HQ1.o] at hb';injection hb' with hb'
       subst hb';exact⟨by simp,_,_,rfl,Rd.nil _ _⟩
      .have hb:=HB1.o;rw[decide_eq_false p1] at hb;have HQ1:Hid (cur1=cur):=by rw[HQ.o,if_neg p1];rfl
       clear p1;go_wp2_with fail;go_meet
       exact⟨by rw[HQ1.o],ao.refl No wr,fun b hb'=>HD.o.bat b (by rw[<-HQ1.o];exact hb')⟩
     case rest=>
      obtain⟨rfl,HM⟩:=hcut;have HSay:Hid (whole (bK ks)=bK rs++aH cur ((c0::r0)::bK (ks.drop (k+1)))):=by have:=HD.o.say;rw[HDr.o] at this;exact this
      have hcw:=HM.o.1.cell hc id;have hcw2:=HM.o.1.cell hc2 id;clear hc hc2;rcases cur1 with _ | b0
      .go_wp2_with fail;go_roundw
       case rel=>
        refine⟨k+1,by omega,by go_num,rs,none,⟨HD.o.out.new HM.o.1,HD.o.aL.tr HM.o.1,rfl,(fun b h=>by cases h),?_,by have:=HD.o.len;omega⟩⟩;rw[HSay.o,HW.o, <-HQ.o]
       case measure=>simp[intOf];omega
      .obtain⟨hbl,A0,cc0,hbat,hrd0⟩:=HM.o.2 b0 rfl;subst hbat;have HJ:Hid (∀ (A2:Option Addr) (C2:Nat),Rd wc A2 r0->
        Calls Tryz.prog 61 #[.slice (some ⟨wc.heap.size,0,none⟩) 2 2] (wc.alloc (.cells #[.slice A0 b0.length cc0,.slice A2 r0.length C2] 41))
         (ud (b0++r0) (wc.alloc (.cells #[.slice A0 b0.length cc0,.slice A2 r0.length C2] 41)))):=by
        intro A2 C2 hrd;have ht:(bK [(A0,cc0,b0),(A2,C2,r0)]).flatten=b0++r0:=by simp[bK]
        rw[<-ht];refine eG _ 2 [(A0,cc0,b0),(A2,C2,r0)] _ ⟨?_,?_⟩ ?_ (by simp)
        .have:=aF.lit wc #[.slice A0 b0.length cc0,.slice A2 r0.length C2] 41 (0,0);simpa [aI] using this
        .intro x hx;simp at hx;rcases hx with rfl | rfl
         .exact hrd0.alloc _
         .exact hrd.alloc _
        .have:=L1.o;simp[bK] at hbl this ⊢;omega
       have HR1:Hid (Rd wc (some ⟨b2,o2+1,none⟩) r0):=by
        intro hne;refine⟨b2,o2+1,rfl,fun j hj=>?_⟩;obtain⟨b3,o3,e3,hcell⟩:=(HX.o.new HM.o.1).get (j:=j+1) (by simp at hj ⊢;omega);injection e3 with e3
        injection e3 with e3 e4
        subst e3;subst e4;rw[Nat.add_assoc,Nat.add_comm 1 j,hcell];simp[bv]
       have HR2:Hid (cx=1->Rd wc (some ⟨b2,o2,none⟩) r0):=fun h1=>by
        have:r0=[]:=List.eq_nil_of_length_eq_zero (by omega);rw[this];exact Rd.nil _ _
       have HL1:Hid (b0.length+r0.length<=(bK (ks.take (k+1))).flatten.length):=by
        rw[HF.o,List.length_append];simp only[List.length_cons];unfold Hid;omega
       clear hrd0 hbl;go_wp2_with fail
       all_goals
        refine(HJ.o _ _ (by first | exact HR2.o (by omega) | exact HR1.o)).mono ?_;rintro e w2 ⟨v2,rfl,h2,k2⟩;obtain⟨A2,c2,rfl,_⟩:=kt h2;have kk:=((ao.refl No wc).alloc _).tr k2;have H2:=ah (iY (iO:=wc.heap.size+1) h2 (by simp));have K2:=ah ((HD.o.aL.tr HM.o.1).tr kk);have O2:=ah ((HD.o.out.new HM.o.1).new kk);have D2:Hid (∀ y ∈ rs, ∀ g,(aI y).ownBlock=some g->g<wc.heap.size+1):=fun y hy g hg=>by have:=(((HD.o.out.new HM.o.1).each.own y hy).lt g hg).2;omega
        have L2:Hid (rs.length+1<=1000001/\w.heap.size<=wc.heap.size+1/\w.heap.size<=w2.heap.size+1):=⟨by have:=HD.o.len;omega,by have:=(HD.o.aL.tr HM.o.1).size;omega,by have:=K2.o.size;omega⟩;have hcw3:=kk.cell hcw2 id;clear h2 k2 kk;by_cases p2:c0 &&& 2≠0
        .have hb:=HB2.o;rw[decide_eq_true p2] at hb;have HP:=ah p2;clear p2;have H3:=ah (lh H2.o ((ao.refl No w2).alloc (.cells #[.slice A2 (b0++r0).length c2] 41)) (fun _ _=>id));have O3:=ah (O2.o.new ((ao.refl No w2).alloc (.cells #[.slice A2 (b0++r0).length c2] 41)));have K3:=ah (K2.o.alloc (.cells #[.slice A2 (b0++r0).length c2] 41));have HLen:Hid ((b0++r0).length=(b0++r0).length):=rfl;generalize hq:b0++r0=q at*
         have HQq:=ah hq;clear hq;go_wp2_with (at_builtin;refine fo rfl (.tmp 41) (.tmp 43) 87 rfl w.heap.size 41 i0 _ 1 24 Tryz.underlying87 hi hz0 hz1 hz2 rfl (by decide) u3 rs.length (rs.map aI) rfl O3.o.row (some ⟨w2.heap.size,0,none⟩) 1 1 [aI (A2,c2,q)] rfl (aF.lit w2 #[.slice A2 q.length c2] 41 (0,0)) rfl (iV [(A2,c2,q)]) (by have:=L2.o.1;unfold maxLen;omega) (by have:=L2.o.1;omega) (by have:=L2.o.2.2;simpa using this) ?_;intro v3 w3 hap;have HA:=ah hap;clear hap);go_roundw
         case rel=>
          refine⟨k+1,by omega,by go_num,rs++[(A2,c2,q)],none,⟨O3.o.Cg H3.o L2.o.2.1 D2.o HA.o,HA.o.JC K3.o O3.o.row (Nat.le_refl _),rfl,(fun b h=>by cases h),?_,by have:=HD.o.len;simp;omega⟩⟩;rw[HSay.o,HW.o, <-HQ.o];simp only;rw[if_pos HP.o,HQq.o,jH,List.append_assoc];rfl
         case measure=>simp[intOf];omega
        .have hb:=HB2.o;rw[decide_eq_false p2] at hb;have HP:=ah p2;clear p2;go_wp2_with fail;go_roundw
         case rel=>
          refine⟨k+1,by omega,by go_num,rs,some (b0++r0),⟨O2.o,K2.o,rfl,(fun b h=>?_),?_,by have:=HD.o.len;omega⟩⟩
          .injection h with h
           subst h;exact⟨by rw[List.length_append];exact HL1.o,A2,c2,by rw[List.length_append],aF.bG H2.o⟩
          .rw[HSay.o,HW.o, <-HQ.o];simp only;rw[if_neg HP.o]
         case measure=>simp[intOf];omega
  .have ht:ks.drop k=[]:=List.drop_eq_nil_of_le (by omega);go_wp2_with fail;go_ret;refine⟨_,rs,rfl,?_,HD.o.out,HD.o.aL⟩;have h1:=HD.o.say;rw[ht] at h1;rw[h1]
   cases cur<;>simp[aH,bK]
end Go.Proofs.YtmbaiglpgaoogaaGreat
