/- Joined, as they were built one by one: Sto20 Sto23 Sto24 Sto25 Sto27 StKey StTold StCut. -/
import Derived.Test.YtmbaiglpgaoogaaGreatS10
import Derived.Test.YtmbaiglpgaoogaaGreatS12
import Derived.Test.YtmbaiglpgaoogaaGreatS13
import Derived.Test.YtmbaiglpgaoogaaGreatS15
import Derived.Test.YtmbaiglpgaoogaaGreatS28
import Derived.Test.YtmbaiglpgaoogaaGreatS35
import Derived.Test.YtmbaiglpgaoogaaGreatS36
namespace Go.Proofs.YtmbaiglpgaoogaaGreat
open Go.RowKit
set_option linter.unusedVariables false
set_option maxRecDepth 100000
section
variable {w0 w:World} {F:SP}
def TidyT (w0:World) (F:SP) (b d s:Nat) (v:Sd) (n t k:Nat) (D:Dk) (M:List Kv) (olds:Int→Option (List Kv)) (x:Ending) (w':World):Prop:=
 (x = .returned (.int .i64 0)∧ ∃ S' D' v',StI n t (k+1) D' S' v' M olds∧D'.armed≤D.armed∧D'.cells.length=n∧v'.snaps=v.snaps∧v'.next=v.next∧Sat w0 (DbP b d s v'*(SpaceP s d S'*(Disk d D'*F))) w')∨
 (x = .returned (.int .i64 21)∧D.armed≠0∧ ∃ D',D'.off=true∧D'.cells.length=n∧CrsI n t (k+1) D' [M]∧Sat w0 (Disk d D'*F) w')
set_option maxHeartbeats 4000000 in
theorem tidy_st (b d s:Nat) (v:Sd) (n t k:Nat) (D:Dk) (S:Spc) (M:List Kv) (olds:Int→Option (List Kv))
  (hst:StI n t k D S v M olds) (hk:k≤10000) (ht:t≤1024) (ha:D.armed≤9223372036854775807) (h:Sat w0 (DbP b d s v*(SpaceP s d S*(Disk d D*F))) w):
  Calls Tryz.prog 35 #[.pointer (some ⟨b,0,none⟩)] w (TidyT w0 F b d s v n t k D M olds):=by
 have hmem:=hst.mem;obtain⟨sf,lim,i,E,bs,⟨slot,turn,lo,fa,fb,LF,y,e1,e2,hd⟩,hlog,hcon,hmap,hlim,hi⟩:=hst.dsk;have hy:y=none:=by cases y with | none=>rfl | some z=>cases e2
 subst hy;subst e1;have c7:w.cell? ⟨b,7,none⟩=some (.bool false):=by
  obtain⟨tb,hr,mb,ns,_,hs0⟩:=h.db;exact(hs0.of (db_d ..)).cell 7
 have hszM:sizM M+400≤imgN n*480:=by have:=hcon.siz;rw[hmap] at this;exact this
 have HSw:Hid (Calls Tryz.prog 73 #[.pointer (some ⟨b,0,none⟩)] w fun e w'=> ∃ r:Int,e = .returned (.int .i64 r)∧Hid (SwapT w0 F b d s v n D lim i E bs (.returned (.int .i64 r)) w')):=by
  refine(swap_st b d s v n slot turn D lo fa fb LF sf lim i E bs M t (20000*k+100) hd hmem ht hlog hszM (by omega) (by omega) hst.cnt (by omega) ha h).mono ?_;intro e w' hh;rcases hh with ⟨sl,tu,lo',a',b',D',sf',he,hrest⟩ | ⟨S',D',he,hrest⟩
  ·exact⟨0,he,.inl ⟨sl,tu,lo',a',b',D',sf',rfl,hrest⟩⟩
  ·exact⟨21,he,.inr ⟨S',D',rfl,hrest⟩⟩
 have HSt:=ah hst;have HCon:=ah hcon;have HMap:=ah hmap;have HLim:=ah hlim;have HI:=ah hi;have HSzM:=ah hszM;have HK:=ah hk;have HLog:=ah hlog;have HMem:=ah hmem;clear hst hcon hmap hlim hi hszM hk hlog hmem hd h ha ht e2;go_enter Tryz.func35, Tryz.ntmps35;go_upto_region 4 with (go_at_call 73;(with_reducible refine HSw.out.mono ?_);rintro e w7 ⟨r,rfl,hsw⟩)
 clear HSw c7;rcases hsw.out with ⟨sl,tu,lo2,a2,b2,D2,sf2,hr0,hd2,hc2,ha2,hs2⟩ | ⟨S2,D2,hr0,ha2,ho2,hcr2,hc2,hl2,hs2⟩
 ·injection hr0 with hr0
  injection hr0 with _ hr0
  subst hr0;have HS2:=ah hs2;have HD2:=ah hd2;have HC2:=ah hc2;have HA2:=ah ha2;clear hs2 hd2 hc2 ha2 hsw;go_wp2_with fail;go_ret;refine .inl ⟨rfl,_,D2,{ v with log:=v.log+2 },⟨⟨sf2,lim+2,i+2,nowE v.L,[],HD2.out.dsk,?_,Con.fresh HMem.out HSzM.out,map_fresh HMem.out,?_,?_⟩,HMem.out,HSt.out.snaps,(HC2.out _ HSt.out.cnt).mono (by omega),?_⟩,HA2.out,HD2.out.len,rfl,rfl,HS2.out⟩
  ·show v.log+2=i+2+1;have:=HLog.out;omega
  ·have:=HLim.out;omega
  ·have:=HI.out;omega
  ·have h1:=HSt.out.few;show v.seq≤k+1∧v.few≤k+1∧v.next≤k+1+1;omega
 ·injection hr0 with hr0
  injection hr0 with _ hr0
  subst hr0;have HOf:Hid (Calls Tryz.prog 70 #[.pointer (some ⟨b,0,none⟩)] w7 fun x w'=>x = .returned (.int .i64 21)∧Sat w0 (Disk d D2*F) w'):=(off_st b d s v hs2).mono fun x w' ⟨h1,h2⟩=>⟨h1,h2.right⟩
  have HCr:Hid (CrsI n t (k+1) D2 [M]):=hcr2.crs (M:=M) (by have:=HLim.out;omega) (by have:=HI.out;omega) (HCon.out.mono (Nat.le_refl _) (by have h1:=HSt.out.few.1;omega)) ((Con.fresh HMem.out HSzM.out).mono (Nat.le_refl _) (by have h1:=HSt.out.few.1;omega)) HMap.out (map_fresh HMem.out) ((hc2 _ HSt.out.cnt).mono (by omega)) List.mem_cons_self;have HAr2:=ah ha2;clear hc2 hs2 hcr2 hsw ha2;go_wp2_with (go_at_call 70;(with_reducible refine HOf.out.mono ?_);rintro e w9 ⟨rfl,hs9⟩;have HS11:=ah hs9;clear hs9);go_ret;exact .inr ⟨rfl,HAr2.out,D2,ho2,hl2,HCr.out,HS11.out⟩
end
section
variable {n t k:Nat} {D D':Dk} {S S':Spc} {v:Sd} {M:List Kv} {olds:Int→Option (List Kv)} {Ms:List (List Kv)}
theorem FndI.arm (h:FndI n t k D S Ms) (a:Nat):FndI n t k { D with armed:=a } S Ms:=by
 obtain⟨sf,lim,i,E,bs,x,⟨slot,turn,lo,fa,fb,LF,y,e1,e2,hd⟩,h2,h3,h4,h5,h6⟩:=h;exact⟨sf,lim,i,E,bs,x,⟨slot,turn,lo,fa,fb,LF,y,e1,e2,hd.arm a⟩,h2,h3,h4,h5,h6.writes,h6.pend⟩
theorem FndI.mono (h:FndI n t k D S Ms) {t' k':Nat} (ht:t≤t') (hk:k≤k'):FndI n t' k' D S Ms:=by
 obtain⟨sf,lim,i,E,bs,x,h1,h2,h3,h4,h5,h6⟩:=h;exact⟨sf,lim,i,E,bs,x,h1,h2.mono ht hk,h3,by omega,by omega,h6.mono (by omega)⟩
theorem CrsI.mono (h:CrsI n t k D Ms) {t' k':Nat} (ht:t≤t') (hk:k≤k'):CrsI n t' k' D Ms:=⟨h.1.mono (by omega),fun keep torn bytes=>by
 obtain⟨S',h1,h2⟩:=h.2 keep torn bytes;exact⟨S',h1,h2.mono ht hk⟩⟩
theorem FndI.len (h:FndI n t k D S Ms):D.cells.length=n∧64≤n∧n≤65536∧D.off=false:=by
 obtain⟨sf,lim,i,E,bs,x,⟨slot,turn,lo,fa,fb,LF,y,e1,e2,hd⟩,_⟩:=h;exact⟨hd.len,hd.big,hd.most,hd.good.fils.off⟩
theorem StI.len (h:StI n t k D S v M olds):D.cells.length=n∧64≤n∧n≤65536∧D.off=false:=by
 obtain⟨sf,lim,i,E,bs,⟨slot,turn,lo,fa,fb,LF,y,e1,e2,hd⟩,_⟩:=h.dsk;exact⟨hd.len,hd.big,hd.most,hd.good.fils.off⟩
theorem StI.arm (h:StI n t k D S v M olds) (a:Nat):StI n t k { D with armed:=a } S v M olds:=by
 obtain⟨sf,lim,i,E,bs,⟨slot,turn,lo,fa,fb,LF,y,e1,e2,hd⟩,h2⟩:=h.dsk;exact⟨⟨sf,lim,i,E,bs,⟨slot,turn,lo,fa,fb,LF,y,e1,e2,hd.arm a⟩,h2⟩,h.mem,h.snaps,⟨h.cnt.writes,h.cnt.pend⟩,h.few⟩
theorem MemIs.up {L:List Ent} {q t t':Nat} {M:List Kv} (h:MemIs L q M t) (ht:t≤t'):MemIs L q M t':=⟨h.sort,h.each,h.top,Nat.le_trans h.len ht,h.pairs,h.tells⟩
theorem StI.mono (h:StI n t k D S v M olds) {t' k':Nat} (ht:t≤t') (hk:k≤k'):StI n t' k' D S v M olds:=by
 obtain⟨sf,lim,i,E,bs,h1,h2,h3,h4,h5,h6⟩:=h.dsk;have:=h.few;exact⟨⟨sf,lim,i,E,bs,h1,h2,h3.mono ht (Nat.le_refl _),h4,by omega,by omega⟩,h.mem.up ht,h.snaps,h.cnt.mono (by omega),by omega⟩
theorem StI.again (h:StI n t k D S v M olds) (hk:k≤100000): ∃ S',openX D=(some S',0)∧FndI n t (k+1) D S' [M]:=by
 obtain⟨sf,lim,i,E,bs,⟨slot,turn,lo,fa,fb,LF,y,e1,e2,hd⟩,hlog,hcon,hmap,hl,hi⟩:=h.dsk;obtain⟨S',h1,h2⟩:=hd.again (by omega);exact⟨S',h1,sf,lim+1,i,E,bs,_,h2,hcon.mono (Nat.le_refl _) (by have:=h.few.1;omega),by rw[hmap];exact List.mem_singleton_self _,by omega,by omega,h.cnt.mono (by omega)⟩
end
section
variable {w0 w:World} {F:SP}
def OpenT (w0:World) (F:SP) (d n t k:Nat) (D:Dk) (Ms:List (List Kv)) (x:Ending) (w':World):Prop:=
 ∃ M ∈ Ms,(∃ b s S' D' v',x = .returned (.tuple #[.pointer (some ⟨b,0,none⟩),.int .i64 0])∧StI n t (k+1) D' S' v' M (fun _=>none)∧D'.armed≤D.armed∧v'.snaps=(fun _=>none)∧v'.next=1∧Sat w0 (DbP b d s v'*(SpaceP s d S'*(Disk d D'*F))) w')∨
  (x = .returned (.tuple #[.pointer none,.int .i64 21])∧D.armed≠0∧ ∃ D',D'.off=true∧D'.cells.length=n∧CrsI n t (k+1) D' [M]∧Sat w0 (Disk d D'*F) w')
theorem open_find {S:Spc} {Ms:List (List Kv)} (d n t k:Nat) (D:Dk) (hf:FndI n t k D S Ms) (ho:openX D=(some S,0)) (ht:t≤1024) (hk:k≤10000) (ha:D.armed≤9223372036854775807) (h:Sat w0 (Disk d D*F) w):
  Calls Tryz.prog 19 #[.pointer (some ⟨d,0,none⟩)] w (OpenT w0 F d n t k D Ms):=by
 obtain⟨sf,lim,i,E,bs,x,⟨slot,turn,lo,fa,fb,LF,y,e1,e2,hd⟩,hcon,hmap,hl,hi,hc⟩:=hf;subst e1;refine(open_st d n t k D slot turn lo fa fb LF y sf lim i E bs ho hd hcon ht hk hl hi hc ha h).mono ?_;intro e w' hh;have hq0:(((maxS E).toNat:Nat):Int)=maxS E:=by have:=(maxS_ge E 0).1;unfold maxS;omega
 have hcon2:Con n t ((maxS E).toNat+bs.length) E bs:=⟨hcon.img,hcon.bats,hcon.few,hcon.siz,fun x hx=>by
  have h1:x.seq≤maxS E:=(maxS_ge E 0).2 x hx;omega,by omega⟩
 have hqk:(maxS E).toNat+bs.length≤k:=by
  have h2:=hcon.bl;have h1:maxS E≤((k - bs.length:Nat):Int):=maxS_le E 0 (by omega) (fun x hx=>by have:=hcon.seqs x hx;omega);omega
 have hst: ∀ (L:List Ent) (D':Dk) (S':Spc) (sf':Nat→Nat) (lim':Nat),MemIs L ((maxS E).toNat+bs.length) (mapD E bs) t→Dsk n D' S' sf' lim' i E bs bs.length false→lim'≤4*(k+1)+8→Cnt D' (20000*(k+1)+100)→StI n t (k+1) D' S' ⟨i+1,L,(maxS E).toNat+bs.length,fun _=>none,0,1⟩ (mapD E bs) (fun _=>none):=fun L D' S' sf' lim' hm hdk hl' hc'=>
  ⟨⟨sf',lim',i,E,bs,hdk,rfl,hcon2,rfl,hl',by omega⟩,hm,fun j=> .inl ⟨rfl,rfl⟩,hc',by show (maxS E).toNat+bs.length≤k+1∧0≤k+1∧1≤k+1+1;omega⟩
 rcases hh with ⟨b,s,L,rfl,hm,hcase⟩ | ⟨hy,hr,rfl,hs⟩
 ·refine⟨_,hmap,.inl ?_⟩;rcases hcase with ⟨hy,hs⟩ | ⟨hy,hr,hs⟩
  ·have hyn:y=none:=by cases y with | none=>rfl | some z=>cases hy
   subst hyn;exact⟨b,s,_,D,_,rfl,hst L D _ sf lim hm hd.dsk (by omega) (hc.mono (by omega)),Nat.le_refl _,rfl,rfl,hs⟩
  ·obtain⟨z,hz⟩: ∃ z,y=some z:=by cases y with | none=>cases hy | some z=>exact⟨z,rfl⟩
   subst hz;have hb:=hd.back (by omega)
   cases hb with
   | ok D1 sf1 e1 h1 c1 r1=>
    rw[e1] at hs;exact⟨b,s,_,D1,_,rfl,hst L D1 _ sf1 (lim+1) hm h1.dsk (by omega) ((c1 _ hc).mono (by omega)),r1,rfl,rfl,hs⟩
   | off ha1 S1 D1 e1 o1 h1 c1 l1=>rw[e1] at hr;exact absurd hr (show ¬ ((21:Int)=0) by decide)
 ·obtain⟨z,hz⟩: ∃ z,y=some z:=by cases y with | none=>cases hy | some z=>exact⟨z,rfl⟩
  subst hz;have hb:=hd.back (by omega)
  cases hb with
  | ok D1 sf1 e1 h1 c1 r1=>rw[e1] at hr;exact absurd rfl hr
  | off ha1 S1 D1 e1 o1 h1 c1 l1=>
   rw[e1] at hs ⊢;refine⟨_,hmap,.inr ⟨rfl,ha1,D1,o1,l1,?_,hs⟩⟩;refine h1.crs (by omega) (by omega) (fun m h2 h3=>?_) (fun m h2 h3=>?_) ((c1 _ hc).mono (by omega))
   ·rw[List.take_of_length_le (by omega)];exact hcon.mono (Nat.le_refl _) (by omega)
   ·rw[List.take_of_length_le (by omega)];exact List.mem_singleton_self _
theorem format_find (d n k m slot turn lim:Nat) (D D1:Dk) (sf:Nat→Nat) (hn:64≤n∧n≤65536) (ho:D.off=false) (hl:D.cells.length=n) (hf:formatX D=(D1,0)) (hg:Good D1 ⟨slot,turn,[]⟩ sf lim) (hl1:D1.cells.length=n) (ha:D1.armed=0) (haD:D.armed≤9223372036854775807) (hcD:Cnt D m) (hc:Cnt D1 m) (hm:m+2≤20000*k+100) (hk:k≤10000) (hlim:lim+3≤4*k+8)
  (h:Sat w0 (Disk d D*F) w):
  Calls Tryz.prog 18 #[.pointer (some ⟨d,0,none⟩)] w fun x w'=>x = .returned (.int .i64 0)∧ ∃ D' S',openX D'=(some S',0)∧FndI n 0 k D' S' [[]]∧D'.armed=0∧Sat w0 (Disk d D'*F) w':=by
 refine(format_st d n m slot turn lim D D1 sf hn ho hl hf hg hl1 ha haD hcD hc (by omega) (by omega) h).mono ?_;rintro x w' ⟨rfl,D',sl,tu,lo,a,b,sf',h1,h2,h3,h4⟩;obtain⟨S',h5,h6⟩:=Dsx.again (bs:=[]) h1 (by omega);refine⟨rfl,D',S',h5,⟨sf',lim+2+1,2,[],[],_,h6,⟨img_nil,(fun c hc=>by cases hc),by simp,?_,(fun x hx=>by cases hx),Nat.zero_le _⟩,List.mem_singleton_self _,by omega,by omega,h2.mono (by omega)⟩,h3,h4⟩;show 0+400≤imgN n*480;have:=(img_le hn.2).1;omega
end
def Sto (w0:World) (F:SP) (b d n t k a nx:Nat) (M:List Kv) (olds:Int→Option (List Kv)) (w:World):Prop:=
 ∃ s S v D,StI n t k D S v M olds∧D.armed≤a∧v.next=nx∧Sat w0 (DbP b d s v*(SpaceP s d S*(Disk d D*F))) w
section
variable {w0 w w':World} {F F':SP} {b d n t k a nx:Nat} {M:List Kv} {olds:Int→Option (List Kv)}
theorem Sto.sat (h:Sto w0 F b d n t k a nx M olds w):Sat w0 F w:=by
 obtain⟨s,S,v,D,h1,h2,h3,h4⟩:=h;exact h4.right.right.right
theorem Sto.map (h:Sto w0 F b d n t k a nx M olds w) (f: ∀ G,Sat w0 (G*F) w→Sat w0 (G*F') w'):Sto w0 F' b d n t k a nx M olds w':=by
 obtain⟨s,S,v,D,h1,h2,h3,h4⟩:=h;exact⟨s,S,v,D,h1,h2,h3,(f _ (h4.of (show _=DbP b d s v*(SpaceP s d S*Disk d D)*F by ac_rfl))).of (by ac_rfl)⟩
theorem Sto.new (h:Sto w0 F b d n t k a nx M olds w) (hk:Chg No w w'):Sto w0 F b d n t k a nx M olds w':=h.map fun G hG=>hG.new hk
theorem Sto.of (h:Sto w0 F b d n t k a nx M olds w) (e:F=F'):Sto w0 F' b d n t k a nx M olds w:=by subst e;exact h
theorem Sto.mono (h:Sto w0 F b d n t k a nx M olds w) {t' k':Nat} (ht:t≤t') (hk:k≤k'):Sto w0 F b d n t' k' a nx M olds w:=by
 obtain⟨s,S,v,D,h1,h2,h3,h4⟩:=h;exact⟨s,S,v,D,h1.mono ht hk,h2,h3,h4⟩
theorem Sto.drop {A:SP} (h:Sto w0 (A*F) b d n t k a nx M olds w):Sto w0 F b d n t k a nx M olds w:=h.map fun G hG=>hG.up2.right
theorem Sto.pairs (h:Sto w0 F b d n t k a nx M olds w):M.Pairwise kLT∧M.length≤t∧ ∀ p ∈ M,p.1.length≤200∧p.2.length≤20000:=by
 obtain⟨s,S,v,D,h1,h2,h3,h4⟩:=h;have h5:=h1.mem.img;refine⟨h1.mem.pairs,?_,mem_sizes h1.mem⟩;have:=h5.2.2.1;rw[←h5.2.1,List.length_map];exact this
theorem sget (K:Slc) (hk:Rd w K.1 K.2.2) (ht:t≤1024) (h:Sto w0 F b d n t k a nx M olds w):
  Calls Tryz.prog 32 #[.pointer (some ⟨b,0,none⟩),.slice K.1 K.2.2.length K.2.1] w fun x w'=> ∃ A c,x = .returned (.tuple #[.slice A ((getK K.2.2 M).getD []).length c,.bool (getK K.2.2 M).isSome])∧Sto w0 (Row 5 1 (.slice A ((getK K.2.2 M).getD []).length c) ((getK K.2.2 M).getD []).length (((getK K.2.2 M).getD []).map bv)*F) b d n t k a nx M olds w':=by
 obtain⟨s,S,v,D,h1,h2,h3,h4⟩:=h;have h9:=get_st b d s v K hk h4 (by have:=h1.mem.len;omega);rw[h1.mem.tells] at h9;refine h9.mono ?_;rintro x w' ⟨A,c,rfl,hs⟩;exact⟨A,c,rfl,s,S,v,D,h1,h2,h3,hs.of (by ac_rfl)⟩
theorem sscan (f tt:Slc) (most:Int) (hf:Rd w f.1 f.2.2) (ht':Rd w tt.1 tt.2.2) (ht:t≤1024) (h:Sto w0 F b d n t k a nx M olds w):
  Calls Tryz.prog 24 #[.pointer (some ⟨b,0,none⟩),.slice f.1 f.2.2.length f.2.1,.slice tt.1 tt.2.2.length tt.2.1,.int .i64 most] w fun x w'=> ∃ (es qs:List En) (B:Option Addr) (c:Nat),x = .returned (.slice B qs.length c)∧(∀ q ∈ qs,q ∈ es)∧qs.map (fun q=>pairE q.ent)=(cutM f.2.2 tt.2.2 M).take most.toNat∧
   Sto w0 (Row 65 2 (.slice B qs.length c) qs.length (qs.flatMap prV)*(OwnE es*F)) b d n t k a nx M olds w':=by
 obtain⟨s,S,v,D,h1,h2,h3,h4⟩:=h;have h9:=scan_st b d s v f tt most hf ht' h4 (by have:=h1.mem.len;omega);rw[h1.mem.view] at h9;refine h9.mono ?_;rintro x w' ⟨es,qs,B,c,rfl,h5,h6,hs⟩;exact⟨es,qs,B,c,rfl,h5,h6,s,S,v,D,h1,h2,h3,hs.of (by ac_rfl)⟩
theorem scount (ht:t≤1024) (h:Sto w0 F b d n t k a nx M olds w):
  Calls Tryz.prog 31 #[.pointer (some ⟨b,0,none⟩)] w fun x w'=>x = .returned (.int .i64 (M.length:Nat))∧Sto w0 F b d n t k a nx M olds w':=by
 obtain⟨s,S,v,D,h1,h2,h3,h4⟩:=h;have h9:=count_st b d s v h4 (by have:=h1.mem.len;omega);rw[h1.mem.view] at h9;exact h9.mono fun x w' ⟨h5,h6⟩=>⟨h5,s,S,v,D,h1,h2,h3,h6⟩
def snapO (olds:Int→Option (List Kv)) (nx:Nat) (M:List Kv):Int→Option (List Kv):=fun j=>if j=((nx:Nat):Int) then some M else olds j
theorem ssnap (hk:k≤10000) (h:Sto w0 F b d n t k a nx M olds w):
  Calls Tryz.prog 41 #[.pointer (some ⟨b,0,none⟩)] w fun x w'=>x = .returned (.int .i64 (nx:Nat))∧Sto w0 F b d n t (k+1) a (nx+1) M (snapO olds nx M) w':=by
 obtain⟨s,S,v,D,h1,h2,h3,h4⟩:=h;have hf:=h1.few;have h9:=snap_st b d s v h4 (by omega) (by omega);refine h9.mono ?_;rintro x w' ⟨rfl,hs⟩;subst h3;obtain⟨sf,lim,i,E,bs,q1,q2,q3,q4,q5,q6⟩:=h1.dsk;refine⟨rfl,s,S,{ v with snaps:=fun j=>if j=((v.next:Nat):Int) then some v.seq else v.snaps j,few:=v.few+1,next:=v.next+1 },D,⟨⟨sf,lim,i,E,bs,q1,q2,q3,q4,by omega,by omega⟩,h1.mem,fun j=>?_,h1.cnt.mono (by omega),?_⟩,h2,rfl,hs⟩
 ·by_cases hj:j=((v.next:Nat):Int)
  ·refine .inr ⟨v.seq,M,?_,?_,Nat.le_refl _,h1.mem.pairs,fun ky=>h1.mem.tells ky⟩
   ·show (if j=((v.next:Nat):Int) then some v.seq else v.snaps j)=_;rw[if_pos hj]
   ·unfold snapO;rw[if_pos hj]
  ·rcases h1.snaps j with ⟨g1,g2⟩ | ⟨q,Mo,g1,g2,g3⟩
   ·refine .inl ⟨?_,?_⟩
    ·show (if j=((v.next:Nat):Int) then some v.seq else v.snaps j)=_;rw[if_neg hj,g1]
    ·unfold snapO;rw[if_neg hj,g2]
   ·refine .inr ⟨q,Mo,?_,?_,g3⟩
    ·show (if j=((v.next:Nat):Int) then some v.seq else v.snaps j)=_;rw[if_neg hj,g1]
    ·unfold snapO;rw[if_neg hj,g2]
 ·show v.seq≤k+1∧v.few+1≤k+1∧v.next+1≤k+1+1;omega
def dropO (olds:Int→Option (List Kv)) (i:Int):Int→Option (List Kv):=fun j=>if j=i then none else olds j
theorem sdrop (i:Int) (hi: -9223372036854775808≤i∧i≤9223372036854775807) (h:Sto w0 F b d n t k a nx M olds w):
  Calls Tryz.prog 43 #[.pointer (some ⟨b,0,none⟩),.int .i64 i] w fun x w'=>x = .returned (.int .i64 (if (olds i).isSome=true then 0 else 104))∧Sto w0 F b d n t k a nx M (dropO olds i) w':=by
 obtain⟨s,S,v,D,h1,h2,h3,h4⟩:=h;refine(drop_st b d s v i hi h4).mono ?_;rintro x w' ⟨rfl,hs⟩;have he:(v.snaps i).isSome=(olds i).isSome:=by
  rcases h1.snaps i with ⟨g1,g2⟩ | ⟨q,Mo,g1,g2,g3⟩<;>rw[g1,g2]<;>rfl
 rw[he];refine⟨rfl,s,S,{ v with snaps:=fun j=>if j=i then none else v.snaps j },D,⟨h1.dsk,h1.mem,fun j=>?_,h1.cnt,h1.few⟩,h2,h3,hs⟩;by_cases hj:j=i
 ·refine .inl ⟨?_,?_⟩
  ·show (if j=i then none else v.snaps j)=none;rw[if_pos hj]
  ·unfold dropO;rw[if_pos hj]
 ·rcases h1.snaps j with ⟨g1,g2⟩ | ⟨q,Mo,g1,g2,g3⟩
  ·refine .inl ⟨?_,?_⟩
   ·show (if j=i then none else v.snaps j)=none;rw[if_neg hj,g1]
   ·unfold dropO;rw[if_neg hj,g2]
  ·refine .inr ⟨q,Mo,?_,?_,g3⟩
   ·show (if j=i then none else v.snaps j)=some q;rw[if_neg hj,g1]
   ·unfold dropO;rw[if_neg hj,g2]
theorem sgetAt (i:Int) (K:Slc) (hi: -9223372036854775808≤i∧i≤9223372036854775807) (hk:Rd w K.1 K.2.2) (ht:t≤1024) (h:Sto w0 F b d n t k a nx M olds w) (q:Option (List UInt8)) (er:Int) (hq:(olds i=none∧q=none∧er=104)∨ ∃ Mo,olds i=some Mo∧q=getK K.2.2 Mo∧er=0):
  Calls Tryz.prog 42 #[.pointer (some ⟨b,0,none⟩),.int .i64 i,.slice K.1 K.2.2.length K.2.1] w fun x w'=> ∃ A c,x = .returned (.tuple #[.slice A (q.getD []).length c,.bool q.isSome,.int .i64 er])∧Sto w0 (Row 5 1 (.slice A (q.getD []).length c) (q.getD []).length ((q.getD []).map bv)*F) b d n t k a nx M olds w':=by
 obtain⟨s,S,v,D,h1,h2,h3,h4⟩:=h;refine(getAt_st b d s v i K hi hk h4 (by have:=h1.mem.len;omega) q er ?_).mono ?_
 ·rcases h1.snaps i with ⟨g1,g2⟩ | ⟨sq,Mo,g1,g2,g3,g4,g5⟩
  ·rcases hq with ⟨q1,q2,q3⟩ | ⟨Mo,q1,q2,q3⟩
   ·exact .inl ⟨g1,q2,q3⟩
   ·rw[g2] at q1;cases q1
  ·rcases hq with ⟨q1,q2,q3⟩ | ⟨Mo2,q1,q2,q3⟩
   ·rw[g2] at q1;cases q1
   ·rw[g2] at q1;injection q1 with q1
    subst q1;exact .inr ⟨sq,g1,by rw[q2,g5],q3⟩
 ·rintro x w' ⟨A,c,rfl,hs⟩;exact⟨A,c,rfl,s,S,v,D,h1,h2,h3,hs.of (by ac_rfl)⟩
theorem swrite (A:Option Addr) (c:Nat) (ps:List Pu) (cs:List Chn) (hcs:ps.map Pu.chn=cs) (hk:k≤10000) (ht:t+ps.length≤1024) (h:Sto w0 F b d n t k 0 nx M olds w)
  (hb: ∀ W,Sat w0 F W→RdV W A (ps.flatMap puC)∧PusR W ps) (hz: ∀ p ∈ ps,p.key.2.2.length≤1000000000∧p.value.2.2.length≤1000000000) (hc:chkB cs=0) (hf:fullB n (putsM cs M) cs=false):
  Calls Tryz.prog 20 #[.pointer (some ⟨b,0,none⟩),.slice A ps.length c] w fun x w'=>x = .returned (.int .i64 0)∧Sto w0 F b d n (t+ps.length) (k+1) 0 nx (putsM cs M) olds w':=by
 subst hcs;obtain⟨s,S,v,D,h1,h2,h3,h4⟩:=h;refine(write_st b d s v n t k D S M olds A c ps h1 hk ht (by omega) h4 hb hz).mono ?_;rintro x w' (⟨g1,_⟩ | ⟨g1,g2,_⟩ | ⟨g1,g2,rfl,S',D',v',g3,g4,g5,g6,g7,g8⟩ | ⟨_,_,_,g1,_⟩)
 ·exact absurd hc g1
 ·rw[hf] at g2;cases g2
 ·rw[List.length_map] at g3;exact⟨rfl,s,S',v',D',g3,by omega,by omega,g8⟩
 ·omega
theorem stidy (hk:k≤10000) (ht:t≤1024) (h:Sto w0 F b d n t k 0 nx M olds w):
  Calls Tryz.prog 35 #[.pointer (some ⟨b,0,none⟩)] w fun x w'=>x = .returned (.int .i64 0)∧Sto w0 F b d n t (k+1) 0 nx M olds w':=by
 obtain⟨s,S,v,D,h1,h2,h3,h4⟩:=h;refine(tidy_st b d s v n t k D S M olds h1 hk ht (by omega) h4).mono ?_;rintro x w' (⟨rfl,S',D',v',g3,g4,g5,g6,g7,g8⟩ | ⟨_,g1,_⟩)
 ·exact⟨rfl,s,S',v',D',g3,by omega,by omega,g8⟩
 ·omega
theorem sopen (hk:k≤5000) (ht:t≤1024) (h:Sto w0 F b d n t k 0 nx M olds w):
  Calls Tryz.prog 19 #[.pointer (some ⟨d,0,none⟩)] w fun x w'=> ∃ b',x = .returned (.tuple #[.pointer (some ⟨b',0,none⟩),.int .i64 0])∧Sto w0 F b' d n t (k+2) 0 1 M (fun _=>none) w':=by
 obtain⟨s,S,v,D,h1,h2,h3,h4⟩:=h;obtain⟨S',e1,e2⟩:=h1.again (by omega);refine(open_find d n t (k+1) D e2 e1 ht (by omega) (by omega) (h4.right.right)).mono ?_;rintro x w' ⟨M',hM,⟨b',s',S2,D2,v2,rfl,g1,g2,g3,g4,g5⟩ | ⟨_,g1,_⟩⟩
 ·rw[List.mem_singleton] at hM;subst hM;exact⟨b',rfl,s',S2,v2,D2,g1,by omega,g4,g5⟩
 ·omega
end
section
variable {w0 w w':World} {F F':SP} {b d n t k a nx:Nat} {M:List Kv} {olds:Int→Option (List Kv)}
theorem lit_fi {e:TypeId} {B:Nat} {cs:Array Value} {W:World} (h:Sat w0 (Pt B e cs*F) W) {xs:List Value} (hx:cs.toList=xs):RdV W (some ⟨B,0,none⟩) xs:=by
 subst hx;exact RdV.of_at h.at (fun j hj=>by rw[Array.getElem?_toList.symm,List.getElem?_eq_getElem hj])
theorem Sto.al (h:Sto w0 F b d n t k a nx M olds w) (o:Obj):Sto w0 (Ow w.heap.size o*F) b d n t k a nx M olds (w.alloc o):=h.map fun G hG=>(hG.alloc o).up2
theorem num10_any (x:Int) (w:World):Calls Tryz.prog 29 #[.int .i64 x] w fun e w'=>e = .returned (.int .i64 x)∧w=w':=by
 go_enter Tryz.func29, Tryz.ntmps29;go_wp2_with fail;go_ret;exact⟨rfl,rfl⟩
set_option maxHeartbeats 1000000 in
theorem begin10_any (n:Nat) (h:64≤n∧n≤65536) (hs:Sat w0 F w):
  Calls Tryz.prog 25 #[.int .i64 (n:Int)] w fun e w'=> ∃ d b,e = .returned (.tuple #[.pointer (some ⟨d,0,none⟩),.pointer (some ⟨b,0,none⟩)])∧Sto w0 F b d n 0 1 0 1 [] (fun _=>none) w':=by
 have HNew:Hid (Calls Tryz.prog 16 #[.int .i64 (n:Int)] w fun e w'=> ∃ d,e = .returned (.tuple #[.pointer (some ⟨d,0,none⟩),.int .i64 0])∧Sat w0 (Disk d (Dk.new n)*F) w'):=(new_any (n:Int) w0 w F hs).mono fun e w' h9=>by
  unfold NewD at h9;rw[if_pos (by omega),Int.toNat_natCast] at h9;exact h9
 have HFo:Hid (∀ W d,Sat w0 (Disk d (Dk.new n)*F) W→Calls Tryz.prog 18 #[.pointer (some ⟨d,0,none⟩)] W fun e w'=>e = .returned (.int .i64 0)∧Hid (∃ D' S',openX D'=(some S',0)∧FndI n 0 0 D' S' [[]]∧D'.armed=0∧Sat w0 (Disk d D'*F) w')):=fun W d hW=>
  format_find d n 0 1 1 1 1 (Dk.new n) (beginD n) (fun _=>0) h rfl (by unfold Dk.new;simp) (formatX_new (by omega)) (begin_good (by omega) h.2) begin_len begin_armed (by show 0≤_;omega) ⟨Nat.zero_le _,Nat.zero_le _⟩ begin_cnt (by omega) (by omega) (by omega) hW
 have HOp:Hid (∀ W d,(∃ D' S',openX D'=(some S',0)∧FndI n 0 0 D' S' [[]]∧D'.armed=0∧Sat w0 (Disk d D'*F) W)→Calls Tryz.prog 19 #[.pointer (some ⟨d,0,none⟩)] W fun e w'=> ∃ b,e = .returned (.tuple #[.pointer (some ⟨b,0,none⟩),.int .i64 0])∧Sto w0 F b d n 0 1 0 1 [] (fun _=>none) w'):=fun W d ⟨D',S',h1,h2,h3,h4⟩=>by
  refine(open_find d n 0 0 D' h2 h1 (by omega) (by omega) (by omega) h4).mono ?_;rintro x w' ⟨M',hM,⟨b',s',S2,D2,v2,rfl,g1,g2,g3,g4,g5⟩ | ⟨_,g1,_⟩⟩
  ·rw[List.mem_singleton] at hM;subst hM;exact⟨b',rfl,s',S2,v2,D2,g1,by omega,g4,g5⟩
  ·omega
 clear hs h;go_enter Tryz.func25, Tryz.ntmps25;go_wp2_with (first
  | (go_at_call 16;(with_reducible refine HNew.out.mono ?_);rintro e w2 ⟨d,rfl,hs⟩;have HS2:=ah hs;clear hs)
  | (go_at_call 29;(with_reducible refine(num10_any _ _).mono ?_);rintro e wx ⟨rfl,rfl⟩)
  | (go_at_call 18;(with_reducible refine(HFo.out _ _ HS2.out).mono ?_);rintro e w3 ⟨rfl,HS3⟩)
  | (go_at_call 19;(with_reducible refine(HOp.out _ _ HS3.out).mono ?_);rintro e w4 ⟨b,rfl,hs⟩;have HS4:=ah hs;clear hs))
 go_ret2;exact⟨d,b,rfl,HS4.out⟩
def wkB1:List Chn:=[⟨[97],[49],false⟩,⟨[98],[50],false⟩]
def wkB2:List Chn:=[⟨[97],[],true⟩]
def wkM1:List Kv:=[([97],[49]),([98],[50])]
def wkM2:List Kv:=[([98],[50])]
theorem wk_m1:putsM wkB1 []=wkM1:=by decide
theorem wk_m2:putsM wkB2 wkM1=wkM2:=by decide
theorem wk_c1:chkB wkB1=0:=by decide
theorem wk_c2:chkB wkB2=0:=by decide
theorem wk_f1:fullB 1024 (putsM wkB1 []) wkB1=false:=by rw[wk_m1];decide
theorem wk_f2:fullB 1024 (putsM wkB2 wkM1) wkB2=false:=by rw[wk_m2];decide
abbrev by1 (x:Int):Obj:= .cells #[.int .u8 x] 5 (1,2)
theorem wk_w1 {k nx:Nat} (hk:k≤1000) (h:Sto w0 F b d 1024 0 k 0 nx [] olds w):
  Calls Tryz.prog 20 #[.pointer (some ⟨b,0,none⟩),.slice (some ⟨w.heap.size+1+1+1+1,0,none⟩) 2 2] (((((w.alloc (by1 97)).alloc (by1 49)).alloc (by1 98)).alloc (by1 50)).alloc (.cells #[.slice (some ⟨w.heap.size,0,none⟩) 1 1,.slice (some ⟨w.heap.size+1,0,none⟩) 1 1,.bool false,.slice (some ⟨w.heap.size+1+1,0,none⟩) 1 1,.slice (some ⟨w.heap.size+1+1+1,0,none⟩) 1 1,.bool false] 43)) fun x w'=>x = .returned (.int .i64 0)∧Sto w0 F b d 1024 2 (k+1) 0 nx wkM1 olds w':=by
 have h5:=((((h.al (by1 97)).al (by1 49)).al (by1 98)).al (by1 50)).al (.cells #[.slice (some ⟨w.heap.size,0,none⟩) 1 1,.slice (some ⟨w.heap.size+1,0,none⟩) 1 1,.bool false,.slice (some ⟨w.heap.size+1+1,0,none⟩) 1 1,.slice (some ⟨w.heap.size+1+1+1,0,none⟩) 1 1,.bool false] 43);simp only[World.size_alloc] at h5;generalize w.heap.size=g at*
 refine(swrite (some ⟨g+1+1+1+1,0,none⟩) 2 [⟨(some ⟨g,0,none⟩,1,[97]),(some ⟨g+1,0,none⟩,1,[49]),false⟩,⟨(some ⟨g+1+1,0,none⟩,1,[98]),(some ⟨g+1+1+1,0,none⟩,1,[50]),false⟩] wkB1 rfl (by omega) (by show 0+2≤1024;omega) h5 (fun W hW=>⟨lit_fi hW rfl,fun p hp=>?_⟩) (fun p hp=>?_) wk_c1 wk_f1).mono ?_
 ·rcases List.mem_cons.1 hp with rfl | hp
  ·exact⟨ow_rd (l:=[97]) hW.up5,ow_rd (l:=[49]) hW.up4⟩
  ·rw[List.mem_singleton] at hp;subst hp;exact⟨ow_rd (l:=[98]) hW.up3,ow_rd (l:=[50]) hW.up2⟩
 ·rcases List.mem_cons.1 hp with rfl | hp
  ·exact⟨by show 1≤_;omega,by show 1≤_;omega⟩
  ·rw[List.mem_singleton] at hp;subst hp;exact⟨by show 1≤_;omega,by show 1≤_;omega⟩
 ·rintro x w' ⟨rfl,h6⟩;rw[wk_m1] at h6;exact⟨rfl,h6.drop.drop.drop.drop.drop⟩
theorem wk_w2 {k nx:Nat} (hk:k≤1000) (h:Sto w0 F b d 1024 2 k 0 nx wkM1 olds w):
  Calls Tryz.prog 20 #[.pointer (some ⟨b,0,none⟩),.slice (some ⟨w.heap.size+1,0,none⟩) 1 1] ((w.alloc (by1 97)).alloc (.cells #[.slice (some ⟨w.heap.size,0,none⟩) 1 1,.slice none 0 0,.bool true] 43)) fun x w'=>x = .returned (.int .i64 0)∧Sto w0 F b d 1024 3 (k+1) 0 nx wkM2 olds w':=by
 have h5:=(h.al (by1 97)).al (.cells #[.slice (some ⟨w.heap.size,0,none⟩) 1 1,.slice none 0 0,.bool true] 43);simp only[World.size_alloc] at h5;generalize w.heap.size=g at*
 refine(swrite (some ⟨g+1,0,none⟩) 1 [⟨(some ⟨g,0,none⟩,1,[97]),(none,0,[]),true⟩] wkB2 rfl (by omega) (by show 2+1≤1024;omega) h5 (fun W hW=>⟨lit_fi hW rfl,fun p hp=>?_⟩) (fun p hp=>?_) wk_c2 wk_f2).mono ?_
 ·rw[List.mem_singleton] at hp;subst hp;exact⟨ow_rd (l:=[97]) hW.up2,Rd.nil _ _⟩
 ·rw[List.mem_singleton] at hp;subst hp;exact⟨by show 1≤_;omega,by show 0≤_;omega⟩
 ·rintro x w' ⟨rfl,h6⟩;rw[wk_m2] at h6;exact⟨rfl,h6.drop.drop⟩
theorem lit_get_no {x:UInt8} (hx:getK [x] M=none) (ht:t≤1024) (h:Sto w0 F b d n t k a nx M olds w) (g:Int) (hg:g=x.toNat):
  Calls Tryz.prog 32 #[.pointer (some ⟨b,0,none⟩),.slice (some ⟨w.heap.size,0,none⟩) 1 1] (w.alloc (by1 g)) fun e w'=> ∃ A c,e = .returned (.tuple #[.slice A 0 c,.bool false])∧Sto w0 F b d n t k a nx M olds w':=by
 subst hg;have h5:=h.al (by1 x.toNat);refine(sget (some ⟨w.heap.size,0,none⟩,1,[x]) (ow_rd (l:=[x]) h5.sat) ht h5).mono ?_;rintro e w' ⟨A,c,rfl,h6⟩;rw[hx] at h6 ⊢;exact⟨A,c,rfl,h6.drop.drop⟩
theorem lit_get_yes {x:UInt8} {v:List UInt8} (hx:getK [x] M=some v) (ht:t≤1024) (h:Sto w0 F b d n t k a nx M olds w) (g:Int) (hg:g=x.toNat) (m:Nat) (hm:v.length=m):
  Calls Tryz.prog 32 #[.pointer (some ⟨b,0,none⟩),.slice (some ⟨w.heap.size,0,none⟩) 1 1] (w.alloc (by1 g)) fun e w'=> ∃ A c,e = .returned (.tuple #[.slice A m c,.bool true])∧Sto w0 (Row 5 1 (.slice A v.length c) v.length (v.map bv)*F) b d n t k a nx M olds w':=by
 subst hg;subst hm;have h5:=h.al (by1 x.toNat);refine(sget (some ⟨w.heap.size,0,none⟩,1,[x]) (ow_rd (l:=[x]) h5.sat) ht h5).mono ?_;rintro e w' ⟨A,c,rfl,h6⟩;rw[hx] at h6 ⊢;exact⟨A,c,rfl,(h6.map fun G hG=>hG.up3.right:Sto w0 _ b d n t k a nx M olds w')⟩
theorem lit_at_yes {x:UInt8} {v:List UInt8} {Mo:List Kv} (i:Int) (hi: -9223372036854775808≤i∧i≤9223372036854775807) (ho:olds i=some Mo) (hx:getK [x] Mo=some v) (ht:t≤1024) (h:Sto w0 F b d n t k a nx M olds w) (g:Int) (hg:g=x.toNat) (m:Nat) (hm:v.length=m):
  Calls Tryz.prog 42 #[.pointer (some ⟨b,0,none⟩),.int .i64 i,.slice (some ⟨w.heap.size,0,none⟩) 1 1] (w.alloc (by1 g)) fun e w'=> ∃ A c,e = .returned (.tuple #[.slice A m c,.bool true,.int .i64 0])∧Sto w0 (Row 5 1 (.slice A v.length c) v.length (v.map bv)*F) b d n t k a nx M olds w':=by
 subst hg;subst hm;have h5:=h.al (by1 x.toNat);refine(sgetAt i (some ⟨w.heap.size,0,none⟩,1,[x]) hi (ow_rd (l:=[x]) h5.sat) ht h5 (some v) 0 (.inr ⟨Mo,ho,hx.symm,rfl⟩)).mono ?_;rintro e w' ⟨A,c,rfl,h6⟩;exact⟨A,c,rfl,(h6.map fun G hG=>hG.up3.right:Sto w0 _ b d n t k a nx M olds w')⟩
theorem row_str {A:Option Addr} {c:Nat} {v:List UInt8} {W:World} (h:Sat w0 (Row 5 1 (.slice A v.length c) v.length (v.map bv)*F) W):(convert 41 9 (.slice A v.length c)).run Tryz.prog W = .ok (.string ⟨v.toArray⟩) W:=
 Rd.str (P:= Tryz.prog) h.row_rdK 41 9 5 Tryz.underlying41 Tryz.underlying5 Tryz.underlying9 c
theorem conv_const (W:World) (C:Array Value) (n c g:Nat) (hg:g=W.heap.size):(convert 41 41 (.slice (some ⟨g,0,none⟩) n c)).run Tryz.prog (W.alloc (.cells C 5)) = .ok (.slice (some ⟨g,0,none⟩) n c) (W.alloc (.cells C 5 (C.size,C.size+1))):=by
 subst hg;exact Lib.run_convert_bytes_const (P:= Tryz.prog) W 41 5 C n c Tryz.underlying41 Tryz.underlying5
set_option maxHeartbeats 4000000 in
theorem wakes10_any (hs:Sat w0 F w):Calls Tryz.prog 26 #[] w fun e w'=>e = .returned (.bool true)∧Sat w0 F w':=by
 have HB:Hid (Calls Tryz.prog 25 #[.int .i64 1024] w fun e w'=> ∃ d b,e = .returned (.tuple #[.pointer (some ⟨d,0,none⟩),.pointer (some ⟨b,0,none⟩)])∧Sto w0 F b d 1024 0 1 0 1 [] (fun _=>none) w'):=begin10_any (w0:=w0) (w:=w) (F:=F) 1024 (by omega) hs;have hcv:=conv_const;clear hs;go_enter Tryz.func26, Tryz.ntmps26;go_upto_region 4 with (go_at_call 25;(with_reducible refine HB.out.mono ?_);rintro e w2 ⟨d,b,rfl,hs⟩;have HS2:=ah hs;clear hs)
 go_upto_region 6 with (first
  | (go_at_call 20;(with_reducible refine(wk_w1 (by omega) HS2.out).mono ?_);rintro e w3 ⟨rfl,hs⟩;have HS3:=ah hs;clear hs)
  | (go_at_call 41;(with_reducible refine(ssnap (by omega) HS3.out).mono ?_);rintro e w4 ⟨rfl,hs⟩;have HS4:=ah hs;clear hs))
 go_upto_region 7 with (go_at_call 20;(with_reducible refine(wk_w2 (by omega) HS4.out).mono ?_);rintro e w5 ⟨rfl,hs⟩;have HS5:=ah hs;clear hs)
 go_upto_region 9 with (first
  | (go_at_call 32;(with_reducible refine(lit_get_no (x:=97) (by decide) (by omega) HS5.out 97 (by decide)).mono ?_);rintro e w6 ⟨A6,c6,rfl,hs⟩;have HS6:=ah hs;clear hs)
  | (go_at_call 42;(with_reducible refine(lit_at_yes (x:=97) (v:=[49]) (Mo:=wkM1) 1 (by omega) rfl (by decide) (by omega) HS6.out 97 (by decide) 1 rfl).mono ?_);rintro e w7 ⟨A7,c7,rfl,hs⟩;have HS7:=ah hs;clear hs))
 go_upto_region 13 with (first
  | (go_at_call 19;(with_reducible refine(sopen (by omega) (by omega) HS7.out).mono ?_);rintro e w8 ⟨b2,rfl,hs⟩;have HS8:=ah hs;clear hs)
  | (go_at_call 29;(with_reducible refine(num10_any _ _).mono ?_);rintro e wx ⟨rfl,rfl⟩)
  | (go_at_call 32;(with_reducible refine(lit_get_yes (x:=98) (v:=[50]) (by decide) (by omega) HS8.out 98 (by decide) 1 rfl).mono ?_);rintro e w9 ⟨A9,c9,rfl,hs⟩;have HS9:=ah hs;clear hs))
 obtain⟨SA,hSA⟩: ∃ SA,SA=ByteArray.mk [49].toArray:=⟨_,rfl⟩;obtain⟨SB,hSB⟩: ∃ SB,SB=ByteArray.mk [50].toArray:=⟨_,rfl⟩;have s1:(convert 41 9 (.slice A7 1 c7)).run Tryz.prog w9 = .ok (.string SA) w9:=by rw[hSA];exact row_str (v:=[49]) HS9.out.sat.right
 have s2:(convert 41 9 (.slice A9 1 c9)).run Tryz.prog w9 = .ok (.string SB) w9:=by rw[hSB];exact row_str (v:=[50]) HS9.out.sat
 have hc1:(SA.toList==[49])=true:=by
  have h9:SA.toList=[49]:=by rw[hSA];simp
  rw[h9];rfl
 have hc2:(SB.toList==[50])=true:=by
  have h9:SB.toList=[50]:=by rw[hSB];simp
  rw[h9];rfl
 clear hSA hSB;go_wp2_with (first
  | (go_at_call 29;(with_reducible refine(num10_any _ _).mono ?_);rintro e wx ⟨rfl,rfl⟩)
  | (go_at_call 31;(with_reducible refine(scount (by omega) HS9.out).mono ?_);rintro e w10 ⟨rfl,hs⟩;have HS10:=ah hs;clear hs))
 go_ret;exact⟨rfl,HS10.out.sat.right.right⟩
end
def keyB (x:Int):List UInt8:=[107,UInt8.ofNat (97+(x % 8).toNat),UInt8.ofNat (97+(x / 8 % 8).toNat)]
theorem keyB_bv (x:Int):((keyB x).map bv).toArray = #[.int .u8 107,.int .u8 (97+x % 8),.int .u8 (97+x / 8 % 8)]:=by
 have h1:(UInt8.ofNat (97+(x % 8).toNat)).toNat=97+(x % 8).toNat:=by rw[UInt8.toNat_ofNat',Nat.mod_eq_of_lt (by omega)]
 have h2:(UInt8.ofNat (97+(x / 8 % 8).toNat)).toNat=97+(x / 8 % 8).toNat:=by rw[UInt8.toNat_ofNat',Nat.mod_eq_of_lt (by omega)]
 show #[bv 107,bv _,bv _]=_;unfold bv;rw[h1,h2];have e1:((97+(x % 8).toNat:Nat):Int)=97+x % 8:=by omega
 have e2:((97+(x / 8 % 8).toNat:Nat):Int)=97+x / 8 % 8:=by omega
 rw[e1,e2];rfl
def SmlM (M:List Kv):Prop:= ∀ p ∈ M,p.1.length+p.2.length≤10
theorem sml_siz: ∀ {M:List Kv},SmlM M→sizM M≤M.length*50
 | [],_=>Nat.le_refl _
 | p::M,h=>by
  have h1:=sml_siz (M:=M) fun q hq=>h q (List.mem_cons_of_mem _ hq)
  have h2:=h p List.mem_cons_self;unfold sizM at h1 ⊢;rw[List.map_cons,List.sum_cons,List.length_cons];have:sizK p=p.1.length+p.2.length+40:=rfl;show _+_≤_;omega
theorem sml_put {M:List Kv} {c:Chn} (h:SmlM M) (hc:c.key.length+c.value.length≤10):SmlM (putM c M):=fun p hp=>by
 rcases putM_mem hp with h1 | rfl
 ·exact h p h1
 ·exact hc
theorem sml_room {M:List Kv} {c:Chn} (h:SmlM M) (hc:c.key.length+c.value.length≤10) (hl:M.length≤600):fullB 1024 (putsM [c] M) [c]=false:=by
 have h1:=sml_siz (sml_put h hc);have h2:=putM_len c M;have h3:(laiB [c]).length=4+c.key.length+c.value.length:=by
  rw[laiB_cons,List.length_append,lai1_len];rfl
 unfold fullB;rw[Bool.or_eq_false_iff,decide_eq_false_iff_not,decide_eq_false_iff_not];have e1:imgN 1024=70:=by decide
 have e2:4≤logN 1024:=by decide
 refine⟨?_,?_⟩
 ·show ¬ imgN 1024*480<sizM (putM c M)+400;rw[e1];omega
 ·rw[h3];unfold needN;rw[if_pos (by omega)];omega
section
variable {w0 w w':World} {F F':SP} {b d n t k a nx:Nat} {M:List Kv} {olds:Int→Option (List Kv)}
theorem key10_any (x:Int) (hx: -9223372036854775808≤x∧x≤9223372036854775807) (w:World):Calls Tryz.prog 33 #[.int .i64 x] w fun e w'=>e = .returned (.slice (some ⟨w.heap.size,0,none⟩) 3 3)∧w'=w.alloc (.cells ((keyB x).map bv).toArray 5):=by
 have a7:=and7;rw[keyB_bv];go_enter Tryz.func33, Tryz.ntmps33;go_wp2_with fail;go_ret;exact⟨rfl,rfl⟩
theorem swrite1 (p:Pu) (g:Nat) (hk:k≤10000) (ht:t+1≤1024) (h:Sto w0 (Ow g (.cells #[slv' p.key,slv' p.value,.bool p.dead] 43)*F) b d n t k 0 nx M olds w) (hp: ∀ W,Sat w0 F W→PuR W p) (hc:ChgOk p.chn) (hf:fullB n (putsM [p.chn] M) [p.chn]=false):
  Calls Tryz.prog 20 #[.pointer (some ⟨b,0,none⟩),.slice (some ⟨g,0,none⟩) 1 1] w fun x w'=>x = .returned (.int .i64 0)∧Sto w0 F b d n (t+1) (k+1) 0 nx (putM p.chn M) olds w':=by
 have h1:p.key.2.2.length≤128:=hc.key.2;have h2:p.value.2.2.length≤16384:=hc.val;have hb:BatOk [p.chn]:=⟨fun q hq=>by rw[List.mem_singleton] at hq;subst hq;exact hc,by show sizC p.chn+0≤_;have:sizC p.chn=p.key.2.2.length+p.value.2.2.length+16:=rfl;omega⟩;refine(swrite (some ⟨g,0,none⟩) 1 [p] [p.chn] rfl hk ht h (fun W hW=>⟨?_,fun q hq=>?_⟩) (fun q hq=>?_) (chk_zero.2 hb) hf).mono ?_
 ·have h9:=lit_fi (xs:=puC p) hW rfl;rw[List.flatMap_cons,List.flatMap_nil,List.append_nil];exact h9
 ·rw[List.mem_singleton] at hq;subst hq;exact hp W hW.right
 ·rw[List.mem_singleton] at hq;subst hq;exact⟨by omega,by omega⟩
 ·rintro x w' ⟨rfl,h6⟩;exact⟨rfl,h6.drop⟩
set_option maxHeartbeats 2000000 in
theorem fill10_any (A:Option Addr) (c:Nat) (l:List Int) (hl:l.length≤140737488355328) (hx: ∀ x ∈ l, -9223372036854775808≤x∧x≤9223372036854775807) (hk:k≤1000) (ht:t≤500) (hM:SmlM M) (h:Sto w0 F b d 1024 t k 0 nx M olds w) (hr: ∀ W,Sat w0 F W→RdV W A (l.map (Value.int .i64))):
  Calls Tryz.prog 34 #[.pointer (some ⟨b,0,none⟩),.slice A l.length c] w fun x w'=>x = .returned (.bool true)∧ ∃ M',SmlM M'∧Sto w0 F b d 1024 (t+60) (k+60) 0 nx M' olds w':=by
 have HS:=ah h;have HX:=ah hx;have HR:=ah hr;have HM:=ah hM;have hcv:=conv_const;clear h hx hr hM;go_enter Tryz.func34, Tryz.ntmps34;go_wp2_with fail;go_loopw [5] (fun iv wr=> ∃ (i:Nat),i≤l.length∧i≤60∧iv = .int .i64 (i:Int)∧Hid (∃ M',SmlM M'∧Sto w0 F b d 1024 (t+i) (k+i) 0 nx M' olds wr)) (fun iv _=>l.length - (intOf iv).toNat)
 case atStart=>exact⟨0,by omega,by omega,rfl,M,HM.out,HS.out⟩
 case round=>
  obtain⟨i,hi,hi6,rfl,HD⟩:=hrel;by_cases hlt:i<l.length
  ·by_cases h60:i<60
   ·obtain⟨M',hM',hs'⟩:=HD.out;obtain⟨lb,lo,hA,hcell⟩:=HR.out wr hs'.sat (by intro h0;have:=congrArg List.length h0;rw[List.length_map,List.length_nil] at this;omega);subst hA;have y0:=hcell i (by rw[List.length_map];exact hlt);rw[List.getElem_map] at y0;have hxi:=HX.out _ (List.getElem_mem hlt);generalize l[i]=x at*
    have HS1:=ah hs';have HM1:=ah hM';have hii:(i:Int)<l.length:=by omega
    have h6:(i:Int)<60:=by omega
    have hw:IntKind.u8.wrap (i:Int)=i:=by rw[IntKind.wrap_u8];omega
    clear hs' hM' hcell;have hbi:([UInt8.ofNat i].map bv).toArray = #[.int .u8 (i:Int)]:=by
     show #[bv _]=_;unfold bv;rw[UInt8.toNat_ofNat',Nat.mod_eq_of_lt (by omega)]
    have HW:Hid (Calls Tryz.prog 20 #[.pointer (some ⟨b,0,none⟩),.slice (some ⟨wr.heap.size+1+1,0,none⟩) 1 1] (((wr.alloc (.cells ((keyB x).map bv).toArray 5)).alloc (.cells #[.int .u8 (i:Int)] 5)).alloc (.cells #[.slice (some ⟨wr.heap.size,0,none⟩) 3 3,.slice (some ⟨wr.heap.size+1,0,none⟩) 1 1,.bool false] 43)) fun e w'=>e = .returned (.int .i64 0)∧ ∃ M',SmlM M'∧Sto w0 F b d 1024 (t+(i+1)) (k+(i+1)) 0 nx M' olds w'):=by
     have h8:=((HS1.out.al (.cells ((keyB x).map bv).toArray 5)).al (.cells #[.int .u8 (i:Int)] 5)).al (.cells #[.slice (some ⟨wr.heap.size,0,none⟩) 3 3,.slice (some ⟨wr.heap.size+1,0,none⟩) 1 1,.bool false] 43);simp only[World.size_alloc] at h8;generalize wr.heap.size=g at*
     have hl2:=(HS1.out.pairs).2.1;refine(swrite1 ⟨(some ⟨g,0,none⟩,3,keyB x),(some ⟨g+1,0,none⟩,1,[UInt8.ofNat i]),false⟩ (g+1+1) (by omega) (by omega) h8 (fun W hW=>⟨ow_rd (l:=keyB x) hW.up2,ow_rd (l:=[UInt8.ofNat i]) (by rw[hbi];exact hW)⟩) ⟨by show 1≤3∧3≤128;omega,by show 1≤_;omega,fun h=>by cases h⟩ (sml_room HM1.out (by show 3+1≤10;omega) (by omega))).mono ?_;rintro e w' ⟨rfl,h6⟩;exact⟨rfl,_,sml_put HM1.out (by show 3+1≤10;omega),h6.drop.drop⟩
    go_upto_region 5 with (first
     | (go_at_call 33;(with_reducible refine(key10_any x hxi _).mono ?_);rintro e w3 ⟨rfl,rfl⟩)
     | (go_at_call 20;(with_reducible refine HW.out.mono ?_);rintro e w4 ⟨rfl,hs⟩;have HS4:=ah hs;clear hs)
     | (go_at_call 29;(with_reducible refine(num10_any _ _).mono ?_);rintro e wx ⟨rfl,rfl⟩))
    go_wp2_with fail;go_roundw
    ·exact⟨i+1,by omega,by omega,by push_cast;rfl,HS4.out⟩
    ·simp[intOf];omega
   ·have hie:i=60:=by omega
    subst hie;clear hlt h60;have hii:(60:Int)<l.length∨¬ (60:Int)<l.length:=Classical.em _;rcases hii with hii | hii
    all_goals
     go_wp2_with fail;go_ret;exact⟨rfl,HD.out⟩
  ·have hie:i=l.length:=by omega
   subst hie;clear hlt;go_wp2_with fail;go_ret;obtain⟨M',h1,h2⟩:=HD.out;exact⟨rfl,M',h1,h2.mono (by omega) (by omega)⟩
end
theorem less_nil (k:List UInt8):Op.bytesLess k []=false:=by rw[cb_less];cases k<;>rfl
theorem inK_nil (k:List UInt8):inK [] [] k=true:=by
 unfold inK;rw[less_nil];rfl
theorem cutM_nil (M:List Kv):cutM [] [] M=M:=by
 unfold cutM;rw[List.filter_eq_self];exact fun p _=>inK_nil p.1
theorem bv_nat {k:Nat} (h:k≤255):bv (UInt8.ofNat k) = .int .u8 (k:Int):=by
 unfold bv;rw[UInt8.toNat_ofNat',Nat.mod_eq_of_lt (by omega)]
section
variable {w0 w w':World} {F F' A:SP} {b d n t k a nx:Nat} {M:List Kv} {olds:Int→Option (List Kv)} {B:Option Addr} {c:Nat} {qs es:List En}
def TolF (F:SP) (B:Option Addr) (qs:List En):Prop:= ∀ (w0 w:World),Sat w0 F w→RdV w B (qs.flatMap prV)∧EnsR w qs
theorem TolF.left (h:TolF F B qs):TolF (A*F) B qs:=fun w0 w hs=>h w0 w hs.right
def TolP (B:Option Addr) (c:Nat) (qs es:List En):SP:=Row 65 2 (.slice B qs.length c) qs.length (qs.flatMap prV)*OwnE es
theorem told_p (h: ∀ q ∈ qs,q ∈ es):TolF (TolP B c qs es*F) B qs:=fun w0 w hs=>by
 have h1:=hs.of (star_assoc _ _ _);exact⟨h1.row_rdK,fun q hq=>ownE_r h1.right q (h q hq)⟩
theorem tolP_rd (h:Sat w0 (TolP B c qs es*F) w):RdV w B (qs.flatMap prV):=(h.of (star_assoc _ _ _)).row_rdK
theorem prV_len (e:En):(prV e).length=2:=rfl
theorem prs_len (es:List En):(es.flatMap prV).length=es.length*2:=flatK_len prV_len es
theorem prs_ones (es:List En): ∀ u ∈ es.flatMap prV,u.oneCell'=true:=fun u hu=>by
 obtain⟨e,_,h⟩:=List.mem_flatMap.1 hu;simp[prV] at h;rcases h with rfl | rfl<;>rfl
theorem TolF.pre (h:TolF F B qs) (m:Nat):TolF F B (qs.take m):=fun w0 w hs=>by
 obtain⟨h1,h2⟩:=h w0 w hs;refine⟨?_,fun q hq=>h2 q (List.mem_of_mem_take hq)⟩;have e:qs.flatMap prV=(qs.take m).flatMap prV++(qs.drop m).flatMap prV:=by rw[←List.flatMap_append,List.take_append_drop]
 rw[e] at h1;have h3:=h1.take ((qs.take m).flatMap prV).length;rw[List.take_left'] at h3
 ·exact h3
 ·rfl
theorem pairsE_pre (qs:List En) (m:Nat):pairsE (qs.take m)=(pairsE qs).take m:=by unfold pairsE;rw[List.map_take]
theorem pairsE_app (qs fs:List En):pairsE (qs++fs)=pairsE qs++pairsE fs:=by unfold pairsE;rw[List.map_append]
theorem TolF.at (h:TolF F B qs) (hs:Sat w0 F w) (h0:0<qs.length): ∃ b o,B=some ⟨b,o,none⟩∧ ∀ (W0 W:World),Sat W0 F W→ ∀ i (hi:i<qs.length),W.cell? ⟨b,o+i*2,none⟩=some (slv' qs[i].key)∧W.cell? ⟨b,o+i*2+1,none⟩=some (slv' qs[i].value)∧EnR W qs[i]:=by
 obtain⟨b,o,e,_⟩:=prs_at (h w0 w hs).1 h0;refine⟨b,o,e,fun W0 W hW i hi=>?_⟩;obtain⟨h1,h2⟩:=h W0 W hW;obtain⟨b',o',e',hq⟩:=prs_at h1 h0;rw[e] at e';injection e' with e'
 injection e' with e1 e2
 subst e1;subst e2;exact⟨(hq i hi).1,(hq i hi).2,h2 _ (List.getElem_mem hi)⟩
theorem Sto.opn (h:Sto w0 F b d n t k a nx M olds w): ∃ G,Sat w0 (F*G) w∧ ∀ F' w',Sat w0 (F'*G) w'→Sto w0 F' b d n t k a nx M olds w':=by
 obtain⟨s,S,v,D,h1,h2,h3,h4⟩:=h;refine⟨DbP b d s v*(SpaceP s d S*Disk d D),h4.of (by ac_rfl),fun F' w' h'=>⟨s,S,v,D,h1,h2,h3,h'.of (by ac_rfl)⟩⟩
theorem sscanT (f tt:Slc) (most:Int) (M':List Kv) (hm:(cutM f.2.2 tt.2.2 M).take most.toNat=M') (hf:Rd w f.1 f.2.2) (ht':Rd w tt.1 tt.2.2) (ht:t≤1024) (h:Sto w0 F b d n t k a nx M olds w):
  Calls Tryz.prog 24 #[.pointer (some ⟨b,0,none⟩),.slice f.1 f.2.2.length f.2.1,.slice tt.1 tt.2.2.length tt.2.1,.int .i64 most] w fun x w'=> ∃ (B:Option Addr) (c:Nat) (qs es:List En),x = .returned (.slice B qs.length c)∧pairsE qs=M'∧(∀ q ∈ qs,q ∈ es)∧qs.length≤c∧Sto w0 (TolP B c qs es*F) b d n t k a nx M olds w':=by
 refine(sscan f tt most hf ht' ht h).mono ?_;rintro x w' ⟨es,qs,B,c,rfl,h1,h2,h3⟩;have h5:qs.length≤c:=by
  obtain⟨A',c',e,h4,_⟩:=h3.sat.row_sl;injection e with e1 e2 e3
  omega
 exact⟨B,c,qs,es,rfl,h2.trans hm,h1,h5,h3.of (by unfold TolP;ac_rfl)⟩
theorem pairs_told {qs fs:List En} {B C:Option Addr} {c c':Nat} (h1:TolF F B qs) (h2:TolF F C fs) (he:pairsE qs=pairsE fs) (hn:qs.length≤1000000) (h:Sto w0 F b d n t k a nx M olds w):
  Calls Tryz.prog 23 #[.slice B qs.length c,.slice C fs.length c'] w fun x w'=>x = .returned (.bool true)∧Sto w0 F b d n t k a nx M olds w':=by
 obtain⟨a1,a2⟩:=h1 _ _ h.sat;obtain⟨b1,b2⟩:=h2 _ _ h.sat;refine(pairs_any B C c c' qs fs w a1 a2 b1 b2 hn).mono ?_;rintro x w' ⟨rfl,hk⟩;rw[decide_eq_true he];exact⟨rfl,h.new hk⟩
theorem ksame_any (A B:Option Addr) (c d:Nat) (l m:List UInt8) (w:World) (h1:Rd w A l) (h2:Rd w B m):
  Calls Tryz.prog 36 #[.slice A l.length c,.slice B m.length d] w fun x w'=>x = .returned (.bool (decide (l=m)))∧w=w':=by
 obtain⟨SA,SB,B1,e1,e2,e3,e4⟩:=str_two l m;have s1:=str_any h1 c;have s2:=str_any h2 d;rw[←e1] at s1;rw[←e2] at s2;rw[←e4];clear e1 e2 e4 h1 h2;go_enter Tryz.func36, Tryz.ntmps36;go_wp2_with fail;go_ret;exact⟨rfl,rfl⟩
end
theorem inK_to {m:List UInt8} (hm:m≠[]) (k:List UInt8):inK [] m k=Op.bytesLess k m:=by
 unfold inK;rw[less_nil,decide_eq_false hm];rfl
theorem inK_from (m k:List UInt8):inK m [] k = !Op.bytesLess k m:=by
 unfold inK;rw[decide_eq_true rfl];simp
theorem cut_two {m:List UInt8} (hm:m≠[]): ∀ {M:List Kv},M.Pairwise kLT→cutM [] m M++cutM m [] M=M
 | [],_=>rfl
 | p::M,h=>by
  obtain⟨h1,h2⟩:=List.pairwise_cons.1 h;have ih:=cut_two hm h2;unfold cutM at ih ⊢;rw[List.filter_cons,List.filter_cons,inK_to hm,inK_from]
  cases hp:Op.bytesLess p.1 m with
  | true=>
   rw[if_pos rfl,if_neg (by simp),List.cons_append,ih]
  | false=>
   have h3:M.filter (fun q=>inK [] m q.1)=[]:=by
    rw[List.filter_eq_nil_iff];intro q hq;rw[inK_to hm,cb_less];have h4:¬ Lib.compareBytes p.1 m<0:=by rw[cb_less] at hp;simpa using hp
    have h5:Lib.compareBytes p.1 q.1<0:=h1 q hq;simp only[decide_eq_true_eq];exact fun h6=>h4 (cb_trans h5 h6)
   rw[h3] at ih ⊢;rw[if_neg (by simp),if_pos (by rfl),List.nil_append];rw[List.nil_append] at ih;rw[ih]
theorem getK_of {M:List Kv} (h:M.Pairwise kLT) {p:Kv} (hp:p ∈ M):getK p.1 M=some p.2:=by
 induction M with
 | nil=>cases hp
 | cons q M ih=>
  obtain⟨h1,h2⟩:=List.pairwise_cons.1 h;unfold getK;rcases List.mem_cons.1 hp with rfl | hp
  ·rw[if_pos rfl]
  ·rw[if_neg (kcb_ne (h1 p hp)),ih h2 hp]
structure StpD where
 op:Int
 n:Int
 bA:Option Addr
 bc:Nat
 ps:List Pu
 key:Slc
 too:Slc
 kA:Option Addr
 kc:Nat
 keep:List Bool
 torn:Int
 cut:Int
def stpC (x:StpD):Array Value:= #[.int .i64 x.op,.int .i64 x.n,.slice x.bA x.ps.length x.bc,slv' x.key,slv' x.too,.slice x.kA x.keep.length x.kc,.int .i64 x.torn,.int .i64 x.cut]
def Pu.cut (p:Pu):Pu:=⟨(p.key.1,p.key.2.1,p.key.2.2.take 140),(p.value.1,p.value.2.1,p.value.2.2.take 200),p.dead⟩
def cutP (ps:List Pu):List Pu:=(ps.take 12).map Pu.cut
theorem cutP_len (ps:List Pu):(cutP ps).length≤12:=by unfold cutP;rw[List.length_map,List.length_take];omega
theorem cutP_r {w:World} {ps:List Pu} (h:PusR w ps):PusR w (cutP ps):=fun p hp=>by
 obtain⟨q,hq,rfl⟩:=List.mem_map.1 hp;have h1:=h q (List.mem_of_mem_take hq);exact⟨h1.1.take 140,h1.2.take 200⟩
theorem cutP_few {ps:List Pu}: ∀ p ∈ cutP ps,p.key.2.2.length≤140∧p.value.2.2.length≤200:=fun p hp=>by
 obtain⟨q,hq,rfl⟩:=List.mem_map.1 hp;exact⟨by show (q.key.2.2.take 140).length≤140;rw[List.length_take];omega,by show (q.value.2.2.take 200).length≤200;rw[List.length_take];omega⟩
theorem cutn_any (n:Nat) (hn:n≤1000) (a:Slc) (l:List UInt8) (hl:l=a.2.2.take n) (w:World) (hc:a.2.2.length≤a.2.1) (g:Int) (hg:g=n):
  Calls Tryz.prog 80 #[.slice a.1 a.2.2.length a.2.1,.int .i64 g] w fun e w'=>e = .returned (.slice a.1 l.length a.2.1)∧w'=w:=by
 subst hl;by_cases h:n<a.2.2.length
 ·have HL:Hid ((a.2.2.take n).length=n):=by unfold Hid;rw[List.length_take];omega
  rw[HL.out];have h2:g≤a.2.1:=by omega
  have h3:g<a.2.2.length:=by omega
  have h4:n≤a.2.1:=by omega
  have h5:0≤g:=by omega
  have h6:g.toNat=n:=by omega
  subst hg;go_enter Tryz.func80, Tryz.ntmps80;go_wp2;go_ret;exact⟨rfl,rfl⟩
 ·have HL:Hid ((a.2.2.take n).length=a.2.2.length):=by unfold Hid;rw[List.length_take];omega
  rw[HL.out];have h3:¬ g<a.2.2.length:=by omega
  go_enter Tryz.func80, Tryz.ntmps80;go_wp2;go_ret;exact⟨rfl,rfl⟩
section
variable {w0 w:World} {F:SP}
theorem row_cut12 {A:Option Addr} {ps:List Pu} (h:RdV w A (ps.flatMap puC)):RdV w A ((ps.take 12).flatMap puC):=by
 have e:ps.flatMap puC=(ps.take 12).flatMap puC++(ps.drop 12).flatMap puC:=by rw[←List.flatMap_append,List.take_append_drop]
 rw[e] at h;have h1:=h.take ((ps.take 12).flatMap puC).length;rw[List.take_left'] at h1
 ·exact h1
 ·rfl
set_option maxHeartbeats 4000000 in
theorem stepcut_any (x:StpD) (h:Sat w0 F w) (hb: ∀ W,Sat w0 F W→RdV W x.bA (x.ps.flatMap puC)) (hbc:x.ps.length≤x.bc∧x.bc≤9223372036854775807) (hsz: ∀ p ∈ x.ps,p.key.2.2.length≤p.key.2.1∧p.value.2.2.length≤p.value.2.1):
  Calls Tryz.prog 44 #[.agg (stpC x)] w fun e w'=> ∃ B c,e = .returned (.agg (stpC { x with bA:=B,bc:=c,ps:=cutP x.ps }))∧Sat w0 (Row 43 3 (.slice B (cutP x.ps).length c) (cutP x.ps).length ((cutP x.ps).flatMap puC)*F) w':=by
 obtain⟨op,n,bA,bc,ps,⟨kyA,kyc,kyl⟩,⟨toA,toc,tol⟩,kpA,kpc,keep,torn,cut⟩:=x;obtain⟨hbc1,hbc2⟩:=hbc;replace hbc1:ps.length≤bc:=hbc1;replace hbc2:bc≤9223372036854775807:=hbc2;have HR:Hid (∀ W,Sat w0 F W→RdV W bA ((ps.take 12).flatMap puC)):=ah fun W hW=>row_cut12 (hb W hW)
 have HZ:=ah hsz;obtain⟨m,hm⟩: ∃ m,m=(ps.take 12).length:=⟨_,rfl⟩;have hm2:m=min 12 ps.length:=by rw[hm,List.length_take]
 have HM:=ah hm;have h1:=h.allocAt (b:=w.heap.size) 80 #[.int .i64 op,.int .i64 n,.slice bA ps.length bc,.slice kyA kyl.length kyc,.slice toA tol.length toc,.slice kpA keep.length kpc,.int .i64 torn,.int .i64 cut] rfl;have h2:=h1.allocAt (b:=w.heap.size+1) 80 #[.int .i64 0,.int .i64 0,.slice none 0 0,.slice none 0 0,.slice none 0 0,.slice none 0 0,.int .i64 0,.int .i64 0] (by simp);clear h h1 hb hsz hm;show Calls Tryz.prog 44 #[.agg #[.int .i64 op,.int .i64 n,.slice bA ps.length bc,.slice kyA kyl.length kyc,.slice toA tol.length toc,.slice kpA keep.length kpc,.int .i64 torn,.int .i64 cut]] w _;go_enter Tryz.func44, Tryz.ntmps44;go_upto_region 1 with fail;revert h2;generalize (w.alloc _).alloc _=W;intro h2;generalize w.heap.size+1=R at*
 generalize w.heap.size=E at*
 have HS:=ah h2;obtain⟨j0,hj,hy0,hy1,hy2⟩:=info_parts info_pu;have Hj:=ah hj;have Hy0:=ah hy0;have Hy1:=ah hy1;have Hy2:=ah hy2;clear hj hy0 hy1 hy2 h2;have HC:Hid (∃ W',(m=ps.length∧W'=W∨12<ps.length∧m=12∧W'=W.setCell ⟨E,2,none⟩ (.slice bA 12 bc))∧Sat w0 (Pt E 80 #[.int .i64 op,.int .i64 n,.slice bA m bc,.slice kyA kyl.length kyc,.slice toA tol.length toc,.slice kpA keep.length kpc,.int .i64 torn,.int .i64 cut]*(Pt R 80 #[.int .i64 0,.int .i64 0,.slice none 0 0,.slice none 0 0,.slice none 0 0,.slice none 0 0,.int .i64 0,.int .i64 0]*F)) W'):=by
  by_cases hl:12<ps.length
  ·have hm12:m=12:=by omega
   subst hm12;exact⟨_,.inr ⟨hl,rfl,rfl⟩,HS.out.up2.set 2 (.slice bA 12 bc)⟩
  ·have hml:m=ps.length:=by omega
   subst hml;exact⟨_,.inl ⟨rfl,rfl⟩,HS.out.up2⟩
 obtain⟨W',hW',hs'⟩:=HC.out;have HS2:=ah hs';clear hs' HC;have c2:=HS.out.up2.cell 2;have f2:=HS.out.up2.frozen 2;rcases hW' with ⟨hml,rfl⟩ | ⟨hl,hm12,rfl⟩
 case' inl=>
  have hgt:¬ (12:Int)<ps.length:=by omega
  go_upto_region 3 with fail;clear hgt c2 f2 HS hml
 case' inr=>
  have hgt:(12:Int)<ps.length:=by omega
  have hcap:(12:Int)≤bc:=by omega
  go_upto_region 3 with fail;clear hgt hcap hl hm12 c2 f2 HS;generalize W.setCell ⟨E,2,none⟩ (.slice bA 12 bc)=W' at*
 all_goals
  have hm12:m≤12:=by omega
  clear hm2 hbc1 hbc2;go_wp2_with fail;go_loopw [3,4] (fun lv iv wr=> ∃ (i c:Nat) (B:Option Addr),i≤m∧iv = .int .i64 (i:Int)∧lv = .slice B i c∧Hid (Sat w0 (Row 43 3 (.slice B i c) i (((ps.take i).map Pu.cut).flatMap puC)*(Pt E 80 #[.int .i64 op,.int .i64 n,.slice bA m bc,.slice kyA kyl.length kyc,.slice toA tol.length toc,.slice kpA keep.length kpc,.int .i64 torn,.int .i64 cut]*(Pt R 80 #[.int .i64 0,.int .i64 0,.slice none 0 0,.slice none 0 0,.slice none 0 0,.slice none 0 0,.int .i64 0,.int .i64 0]*F))) wr)) (fun _ iv _=>m - (intOf iv).toNat)
  case atStart=>exact⟨0,0,none,by omega,rfl,rfl,HS2.out.row_nil 43 3⟩
  case round=>
   obtain⟨i,c,B,hi,rfl,rfl,HD⟩:=hrel;by_cases hlt:i<m
   ·have hil:i<(ps.take 12).length:=by rw[←HM.out];exact hlt
    obtain⟨lb,lo,rfl,hq⟩:=pus_at (HR.out _ HD.out.right.right.right) (by omega);obtain⟨y0,y1,y2⟩:=hq i hil;have hip:i<ps.length:=by rw[List.length_take] at hil;omega
    have hge:(ps.take 12)[i]=ps[i]:=List.getElem_take;rw[hge] at y0 y1 y2;have hz:=HZ.out _ (List.getElem_mem hip);have HTk:Hid ((ps.take (i+1)).map Pu.cut=(ps.take i).map Pu.cut++[ps[i].cut]):=by
     unfold Hid;rw[List.take_add_one,List.getElem?_eq_getElem hip,List.map_append];rfl
    clear hq hge;generalize ps[i]=p at*
    clear hil hip;obtain⟨⟨kA,kc,kl⟩,⟨vA,vc,vl⟩,dd⟩:=p;replace y0:_=some (Value.slice kA kl.length kc):=y0;replace y1:_=some (Value.slice vA vl.length vc):=y1;replace y2:_=some (Value.bool dd):=y2;obtain⟨kl2,hkl2⟩: ∃ kl2,kl2=kl.take 140:=⟨_,rfl⟩;obtain⟨vl2,hvl2⟩: ∃ vl2,vl2=vl.take 200:=⟨_,rfl⟩;have HPc:Hid (Pu.cut ⟨(kA,kc,kl),(vA,vc,vl),dd⟩=⟨(kA,kc,kl2),(vA,vc,vl2),dd⟩):=by rw[hkl2,hvl2];rfl
    have HK2:=ah hkl2;have HV2:=ah hvl2;have HKc:Hid (kl.length≤kc):=hz.1;have HVc:Hid (vl.length≤vc):=hz.2;have hii:(i:Int)<m:=by omega
    have x0:wr.cell? ⟨E,2,none⟩=some (.slice (some ⟨lb,lo,none⟩) m bc):=HD.out.up2.cell 2;have hs5:=HD.out.allocPt 43 #[.slice kA kl.length kc,.slice vA vl.length vc,.bool dd];obtain⟨P,hP⟩: ∃ P,P=wr.heap.size:=⟨_,rfl⟩;obtain⟨W5,hW5⟩: ∃ W5,W5=wr.alloc (.cells #[.slice kA kl.length kc,.slice vA vl.length vc,.bool dd] 43):=⟨_,rfl⟩;rw[←hW5, ←hP] at hs5;have HS5:=ah hs5;clear hlt hz hkl2 hvl2 hs5;go_upto_region 8 with fail;rw[←hP, ←hW5];clear hP hW5 x0 y0 y1 y2;have c0:=HS5.out.cell 0;have c1:=HS5.out.cell 1;have f0:=HS5.out.frozen 0;have f1:=HS5.out.frozen 1;go_region_law (first
     | (go_simp;go_at_call 80;(with_reducible refine(cutn_any 140 (by omega) (kA,kc,kl) kl2 HK2.out _ HKc.out 140 rfl).mono ?_);rintro x w1 ⟨rfl,rfl⟩)
     | (go_simp;go_at_call 80;(with_reducible refine(cutn_any 200 (by omega) (vA,vc,vl) vl2 HV2.out _ HVc.out 200 rfl).mono ?_);rintro x w1 ⟨rfl,rfl⟩))
    all_goals
     have h5:Sat w0 (Pt P 43 #[.slice kA kl2.length kc,.slice vA vl2.length vc,.bool dd]*(Row 43 3 (.slice B i c) i (((ps.take i).map Pu.cut).flatMap puC)*(Pt E 80 #[.int .i64 op,.int .i64 n,.slice (some ⟨lb,lo,none⟩) m bc,.slice kyA kyl.length kyc,.slice toA tol.length toc,.slice kpA keep.length kpc,.int .i64 torn,.int .i64 cut]*(Pt R 80 #[.int .i64 0,.int .i64 0,.slice none 0 0,.slice none 0 0,.slice none 0 0,.slice none 0 0,.int .i64 0,.int .i64 0]*F)))) _:=((HS5.out.set 0 (.slice kA kl2.length kc)).set 1 (.slice vA vl2.length vc)).drew;clear f0 f1 c0 c1;revert h5;generalize World.drew (World.setCell (World.setCell W5 _ _) _ _)=w6;intro h5;have c0:=h5.cell 0;have c1:=h5.cell 1;have c2:=h5.cell 2;have HS6:=ah (h5.up2.alloc' (.cells #[.slice kA kl2.length kc,.slice vA vl2.length vc,.bool dd] 43));clear h5;go_wp2_with (at_builtin;refine wpList_appS rfl (.tmp 34) (.tmp 36) 22 rfl 43 j0 _ 3 56 Tryz.underlying22 Hj.out Hy0.out Hy1.out Hy2.out rfl (by decide) (.slice B i c) i (((ps.take i).map Pu.cut).flatMap puC) rfl w0 _ (by exact HS6.out) (some ⟨w6.heap.size,0,none⟩) 1 1 [.slice kA kl2.length kc,.slice vA vl2.length vc,.bool dd] rfl (by exact(lit_rdv _ _ _)) rfl (by intro u hu;simp at hu;rcases hu with rfl | rfl | rfl<;>rfl) (by unfold maxLen;omega) (by omega) ?_;intro B7 c7 w7 hs7;have HS7:=ah hs7;clear hs7);go_roundw
     ·refine⟨i+1,c7,B7,by omega,by push_cast;rfl,rfl,?_⟩;rw[HTk.out,List.flatMap_append,HPc.out];exact HS7.out.up2.right
     ·simp[intOf];omega
   ·have hie:i=m:=by omega
    subst hie;have hge:¬ (i:Int)<i:=by omega
    have hs5:Sat w0 (Pt E 80 #[.int .i64 op,.int .i64 n,.slice B i c,.slice kyA kyl.length kyc,.slice toA tol.length toc,.slice kpA keep.length kpc,.int .i64 torn,.int .i64 cut]*(Pt R 80 #[.int .i64 0,.int .i64 0,.slice none 0 0,.slice none 0 0,.slice none 0 0,.slice none 0 0,.int .i64 0,.int .i64 0]*(Row 43 3 (.slice B i c) i (((ps.take i).map Pu.cut).flatMap puC)*F))) (wr.setCell ⟨E,2,none⟩ (.slice B i c)):=(HD.out.up2.set 2 (.slice B i c)).of (by ac_rfl);have x2:wr.cell? ⟨E,2,none⟩=some (.slice bA i bc):=HD.out.up2.cell 2;have g2:=HD.out.up2.frozen 2;obtain⟨W5,hW5⟩: ∃ W5,W5=wr.setCell ⟨E,2,none⟩ (.slice B i c):=⟨_,rfl⟩;rw[←hW5] at hs5;have HS5:=ah hs5;have HPs:Hid (cutP ps=(ps.take i).map Pu.cut):=by
     unfold Hid cutP;have h9:=HM.out;rw[List.length_take] at h9;by_cases hp:ps.length≤12
     ·rw[List.take_of_length_le hp,List.take_of_length_le (by omega)]
     ·rw[show i=12 by omega]
    have HLc:Hid ((cutP ps).length=i):=by
     unfold Hid cutP;rw[List.length_map];exact HM.out.symm
    clear hs5 hlt;go_upto_region 11 with fail;rw[←hW5];clear hW5 x2 g2;have h5:=HS5.out;have c0:W5.cell? ⟨E,0,none⟩=some (.int .i64 op):=h5.cell 0;have d0:=h5.up2.frozen 0;have e0:W5.cell? ⟨R,0,none⟩=some (.int .i64 0):=h5.up2.cell 0;have c1:W5.cell? ⟨E,1,none⟩=some (.int .i64 n):=h5.cell 1;have d1:=h5.up2.frozen 1;have e1:W5.cell? ⟨R,1,none⟩=some (.int .i64 0):=h5.up2.cell 1;have c2:W5.cell? ⟨E,2,none⟩=some (.slice B i c):=h5.cell 2;have d2:=h5.up2.frozen 2;have e2:W5.cell? ⟨R,2,none⟩=some (.slice none 0 0):=h5.up2.cell 2;have c3:W5.cell? ⟨E,3,none⟩=some (.slice kyA kyl.length kyc):=h5.cell 3;have d3:=h5.up2.frozen 3;have e3:W5.cell? ⟨R,3,none⟩=some (.slice none 0 0):=h5.up2.cell 3;have c4:W5.cell? ⟨E,4,none⟩=some (.slice toA tol.length toc):=h5.cell 4;have d4:=h5.up2.frozen 4;have e4:W5.cell? ⟨R,4,none⟩=some (.slice none 0 0):=h5.up2.cell 4;have c5:W5.cell? ⟨E,5,none⟩=some (.slice kpA keep.length kpc):=h5.cell 5;have d5:=h5.up2.frozen 5;have e5:W5.cell? ⟨R,5,none⟩=some (.slice none 0 0):=h5.up2.cell 5;have c6:W5.cell? ⟨E,6,none⟩=some (.int .i64 torn):=h5.cell 6;have d6:=h5.up2.frozen 6;have e6:W5.cell? ⟨R,6,none⟩=some (.int .i64 0):=h5.up2.cell 6;have c7:W5.cell? ⟨E,7,none⟩=some (.int .i64 cut):=h5.cell 7;have d7:=h5.up2.frozen 7;have e7:W5.cell? ⟨R,7,none⟩=some (.int .i64 0):=h5.up2.cell 7;have h6:=((((((((h5.up2.set 0 (.int .i64 op)).set 1 (.int .i64 n)).set 2 (.slice B i c)).set 3 (.slice kyA kyl.length kyc)).set 4 (.slice toA tol.length toc)).set 5 (.slice kpA keep.length kpc)).set 6 (.int .i64 torn)).set 7 (.int .i64 cut));simp only[List.setIfInBounds_toArray,List.set_cons_zero,List.set_cons_succ] at h6;have HS6:=ah h6;clear h6 h5;go_wp2_with fail;have h6:=HS6.out;revert h6;generalize World.setCell _ _ _=w4;intro h6;refine bodyPost_ret (results_cell_row (p:=2) (by kernel_rfl) _ _ R 80 _ (0,0) _ rfl h6.at Tryz.underlying80 rfl (by kernel_rfl)) rfl ?_;refine⟨B,c,?_,?_⟩
    ·show _=Ending.returned (.agg #[.int .i64 op,.int .i64 n,.slice B (cutP ps).length c,.slice kyA kyl.length kyc,.slice toA tol.length toc,.slice kpA keep.length kpc,.int .i64 torn,.int .i64 cut]);rw[HLc.out]
    ·show Sat w0 (Row 43 3 (.slice B (cutP ps).length c) (cutP ps).length ((cutP ps).flatMap puC)*F) w4;rw[HLc.out,HPs.out];exact h6.right.right
end
end Go.Proofs.YtmbaiglpgaoogaaGreat
