/- Joined, as they were built one by one: Sto20 Sto23 Sto24 Sto25 Sto27 StKey. -/
import Derived.Test.YtmbaiglpgaoogaaGreatR10
import Derived.Test.YtmbaiglpgaoogaaGreatR12
import Derived.Test.YtmbaiglpgaoogaaGreatR13
import Derived.Test.YtmbaiglpgaoogaaGreatR28
import Derived.Test.YtmbaiglpgaoogaaGreatR35
namespace Go.Proofs.YtmbaiglpgaoogaaGreat
open Go.RowKit
set_option linter.unusedVariables false
set_option maxRecDepth 100000
section
variable {w0 w:World} {F:SP}
def TidyT (w0:World) (F:SP) (b d s:Nat) (v:Sd) (n t k:Nat) (D:Dk) (M:List Kv) (olds:Int→Option (List Kv)) (x:Ending) (w':World):Prop:=
 (x = .returned (.int .i64 0)∧ ∃ S' D' v',StI n t (k+1) D' S' v' M olds∧D'.armed≤D.armed∧D'.cells.length=n∧v'.snaps=v.snaps∧v'.next=v.next∧Sat w0 (DbP b d s v'*(SpaceP s d S'*(Disk d D'*F))) w')∨
 (x = .returned (.int .i64 21)∧D.armed≠0∧ ∃ D',D'.off=true∧D'.cells.length=n∧CrsI n t (k+1) D' [M]∧Sat w0 (Disk d D'*F) w')
set_option maxHeartbeats 4000000 in
theorem tidy_st (b d s:Nat) (v:Sd) (n t k:Nat) (D:Dk) (S:Spc) (M:List Kv) (olds:Int→Option (List Kv))
  (hst:StI n t k D S v M olds) (hk:k≤10000) (ht:t≤1024) (ha:D.armed≤9223372036854775807) (h:Sat w0 (DbP b d s v*(SpaceP s d S*(Disk d D*F))) w):
  Calls Tryz.prog 35 #[.pointer (some ⟨b,0,none⟩)] w (TidyT w0 F b d s v n t k D M olds):=by
 have hmem:=hst.mem
 obtain ⟨sf,lim,i,E,bs,⟨slot,turn,lo,fa,fb,LF,y,e1,e2,hd⟩,hlog,hcon,hmap,hlim,hi⟩:=hst.dsk
 have hy:y=none:=by cases y with | none=>rfl | some z=>cases e2
 subst hy
 subst e1
 have c7:w.cell? ⟨b,7,none⟩=some (.bool false):=by
  obtain ⟨tb,hr,mb,ns,_,hs0⟩:=h.db
  exact (hs0.of (db_d ..)).cell 7
 have hszM:sizM M+400≤imgN n*480:=by have:=hcon.siz;rw [hmap] at this;exact this
 have HSw:Hid (Calls Tryz.prog 73 #[.pointer (some ⟨b,0,none⟩)] w fun e w'=> ∃ r:Int,e = .returned (.int .i64 r)∧Hid (SwapT w0 F b d s v n D lim i E bs (.returned (.int .i64 r)) w')):=by
  refine (swap_st b d s v n slot turn D lo fa fb LF sf lim i E bs M t (20000*k+100) hd hmem ht hlog hszM (by omega) (by omega) hst.cnt (by omega) ha h).mono ?_
  intro e w' hh
  rcases hh with ⟨sl,tu,lo',a',b',D',sf',he,hrest⟩ | ⟨S',D',he,hrest⟩
  ·exact ⟨0,he, .inl ⟨sl,tu,lo',a',b',D',sf',rfl,hrest⟩⟩
  ·exact ⟨21,he, .inr ⟨S',D',rfl,hrest⟩⟩
 have HSt:=Lib.hid hst;have HCon:=Lib.hid hcon;have HMap:=Lib.hid hmap;have HLim:=Lib.hid hlim;have HI:=Lib.hid hi;have HSzM:=Lib.hid hszM;have HK:=Lib.hid hk;have HLog:=Lib.hid hlog;have HMem:=Lib.hid hmem
 clear hst hcon hmap hlim hi hszM hk hlog hmem hd h ha ht e2
 go_enter Tryz.func35, Tryz.ntmps35
 go_upto_region 4 with (go_at_call 73;(with_reducible refine HSw.out.mono ?_);rintro e w7 ⟨r,rfl,hsw⟩)
 clear HSw c7
 rcases hsw.out with ⟨sl,tu,lo2,a2,b2,D2,sf2,hr0,hd2,hc2,ha2,hs2⟩ | ⟨S2,D2,hr0,ha2,ho2,hcr2,hc2,hl2,hs2⟩
 ·injection hr0 with hr0
  injection hr0 with _ hr0
  subst hr0
  have HS2:=Lib.hid hs2;have HD2:=Lib.hid hd2;have HC2:=Lib.hid hc2;have HA2:=Lib.hid ha2
  clear hs2 hd2 hc2 ha2 hsw
  go_wp2_with fail
  go_ret
  refine .inl ⟨rfl,_,D2,{ v with log:=v.log+2 },⟨⟨sf2,lim+2,i+2,nowE v.L,[],HD2.out.dsk,?_,Con.fresh HMem.out HSzM.out,map_fresh HMem.out,?_,?_⟩,HMem.out,HSt.out.snaps,(HC2.out _ HSt.out.cnt).mono (by omega),?_⟩,HA2.out,HD2.out.len,rfl,rfl,HS2.out⟩
  ·show v.log+2=i+2+1
   have:=HLog.out;omega
  ·have:=HLim.out;omega
  ·have:=HI.out;omega
  ·have h1:=HSt.out.few
   show v.seq≤k+1∧v.few≤k+1∧v.next≤k+1+1
   omega
 ·injection hr0 with hr0
  injection hr0 with _ hr0
  subst hr0
  have HOf:Hid (Calls Tryz.prog 70 #[.pointer (some ⟨b,0,none⟩)] w7 fun x w'=>x = .returned (.int .i64 21)∧Sat w0 (Disk d D2*F) w'):=(off_st b d s v hs2).mono fun x w' ⟨h1,h2⟩=>⟨h1,h2.right⟩
  have HCr:Hid (CrsI n t (k+1) D2 [M]):=hcr2.crs (M:=M) (by have:=HLim.out;omega) (by have:=HI.out;omega) (HCon.out.mono (Nat.le_refl _) (by have h1:=HSt.out.few.1;omega)) ((Con.fresh HMem.out HSzM.out).mono (Nat.le_refl _) (by have h1:=HSt.out.few.1;omega)) HMap.out (map_fresh HMem.out) ((hc2 _ HSt.out.cnt).mono (by omega)) List.mem_cons_self
  have HAr2:=Lib.hid ha2
  clear hc2 hs2 hcr2 hsw ha2
  go_wp2_with (go_at_call 70;(with_reducible refine HOf.out.mono ?_);rintro e w9 ⟨rfl,hs9⟩;have HS11:=Lib.hid hs9;clear hs9)
  go_ret
  exact .inr ⟨rfl,HAr2.out,D2,ho2,hl2,HCr.out,HS11.out⟩
end
section
variable {n t k:Nat} {D D':Dk} {S S':Spc} {v:Sd} {M:List Kv} {olds:Int→Option (List Kv)} {Ms:List (List Kv)}
theorem MemIs.up {L:List Ent} {q t t':Nat} {M:List Kv} (h:MemIs L q M t) (ht:t≤t'):MemIs L q M t':=⟨h.sort,h.each,h.top,Nat.le_trans h.len ht,h.pairs,h.tells⟩
theorem StI.mono (h:StI n t k D S v M olds) {t' k':Nat} (ht:t≤t') (hk:k≤k'):StI n t' k' D S v M olds:=by
 obtain ⟨sf,lim,i,E,bs,h1,h2,h3,h4,h5,h6⟩:=h.dsk
 have:=h.few
 exact ⟨⟨sf,lim,i,E,bs,h1,h2,h3.mono ht (Nat.le_refl _),h4,by omega,by omega⟩,h.mem.up ht,h.snaps,h.cnt.mono (by omega),by omega⟩
theorem StI.again (h:StI n t k D S v M olds) (hk:k≤100000): ∃ S',openX D=(some S',0)∧FndI n t (k+1) D S' [M]:=by
 obtain ⟨sf,lim,i,E,bs,⟨slot,turn,lo,fa,fb,LF,y,e1,e2,hd⟩,hlog,hcon,hmap,hl,hi⟩:=h.dsk
 obtain ⟨S',h1,h2⟩:=hd.again (by omega)
 exact ⟨S',h1,sf,lim+1,i,E,bs,_,h2,hcon.mono (Nat.le_refl _) (by have:=h.few.1;omega),by rw [hmap];exact List.mem_singleton_self _,by omega,by omega,h.cnt.mono (by omega)⟩
end
section
variable {w0 w:World} {F:SP}
def OpenT (w0:World) (F:SP) (d n t k:Nat) (D:Dk) (Ms:List (List Kv)) (x:Ending) (w':World):Prop:=
 ∃ M ∈ Ms,(∃ b s S' D' v',x = .returned (.tuple #[.pointer (some ⟨b,0,none⟩), .int .i64 0])∧StI n t (k+1) D' S' v' M (fun _=>none)∧D'.armed≤D.armed∧v'.snaps=(fun _=>none)∧v'.next=1∧Sat w0 (DbP b d s v'*(SpaceP s d S'*(Disk d D'*F))) w')∨
  (x = .returned (.tuple #[.pointer none, .int .i64 21])∧D.armed≠0∧ ∃ D',D'.off=true∧D'.cells.length=n∧CrsI n t (k+1) D' [M]∧Sat w0 (Disk d D'*F) w')
theorem open_find {S:Spc} {Ms:List (List Kv)} (d n t k:Nat) (D:Dk) (hf:FndI n t k D S Ms) (ho:openX D=(some S,0)) (ht:t≤1024) (hk:k≤10000) (ha:D.armed≤9223372036854775807) (h:Sat w0 (Disk d D*F) w):
  Calls Tryz.prog 19 #[.pointer (some ⟨d,0,none⟩)] w (OpenT w0 F d n t k D Ms):=by
 obtain ⟨sf,lim,i,E,bs,x,⟨slot,turn,lo,fa,fb,LF,y,e1,e2,hd⟩,hcon,hmap,hl,hi,hc⟩:=hf
 subst e1
 refine (open_st d n t k D slot turn lo fa fb LF y sf lim i E bs ho hd hcon ht hk hl hi hc ha h).mono ?_
 intro e w' hh
 have hq0:(((maxS E).toNat:Nat):Int)=maxS E:=by have:=(maxS_ge E 0).1;unfold maxS;omega
 have hcon2:Con n t ((maxS E).toNat+bs.length) E bs:=⟨hcon.img,hcon.bats,hcon.few,hcon.siz,fun x hx=>by
  have h1:x.seq≤maxS E:=(maxS_ge E 0).2 x hx
  omega,by omega⟩
 have hqk:(maxS E).toNat+bs.length≤k:=by
  have h2:=hcon.bl
  have h1:maxS E≤((k - bs.length:Nat):Int):=maxS_le E 0 (by omega) (fun x hx=>by have:=hcon.seqs x hx;omega)
  omega
 have hst: ∀ (L:List Ent) (D':Dk) (S':Spc) (sf':Nat→Nat) (lim':Nat),MemIs L ((maxS E).toNat+bs.length) (mapD E bs) t→Dsk n D' S' sf' lim' i E bs bs.length false→lim'≤4*(k+1)+8→Cnt D' (20000*(k+1)+100)→StI n t (k+1) D' S' ⟨i+1,L,(maxS E).toNat+bs.length,fun _=>none,0,1⟩ (mapD E bs) (fun _=>none):=fun L D' S' sf' lim' hm hdk hl' hc'=>
  ⟨⟨sf',lim',i,E,bs,hdk,rfl,hcon2,rfl,hl',by omega⟩,hm,fun j=> .inl ⟨rfl,rfl⟩,hc',by show (maxS E).toNat+bs.length≤k+1∧0≤k+1∧1≤k+1+1;omega⟩
 rcases hh with ⟨b,s,L,rfl,hm,hcase⟩ | ⟨hy,hr,rfl,hs⟩
 ·refine ⟨_,hmap, .inl ?_⟩
  rcases hcase with ⟨hy,hs⟩ | ⟨hy,hr,hs⟩
  ·have hyn:y=none:=by cases y with | none=>rfl | some z=>cases hy
   subst hyn
   exact ⟨b,s,_,D,_,rfl,hst L D _ sf lim hm hd.dsk (by omega) (hc.mono (by omega)),Nat.le_refl _,rfl,rfl,hs⟩
  ·obtain ⟨z,hz⟩: ∃ z,y=some z:=by cases y with | none=>cases hy | some z=>exact ⟨z,rfl⟩
   subst hz
   have hb:=hd.back (by omega)
   cases hb with
   | ok D1 sf1 e1 h1 c1 r1=>
    rw [e1] at hs
    exact ⟨b,s,_,D1,_,rfl,hst L D1 _ sf1 (lim+1) hm h1.dsk (by omega) ((c1 _ hc).mono (by omega)),r1,rfl,rfl,hs⟩
   | off ha1 S1 D1 e1 o1 h1 c1 l1=>rw [e1] at hr;exact absurd hr (show ¬ ((21:Int)=0) by decide)
 ·obtain ⟨z,hz⟩: ∃ z,y=some z:=by cases y with | none=>cases hy | some z=>exact ⟨z,rfl⟩
  subst hz
  have hb:=hd.back (by omega)
  cases hb with
  | ok D1 sf1 e1 h1 c1 r1=>rw [e1] at hr;exact absurd rfl hr
  | off ha1 S1 D1 e1 o1 h1 c1 l1=>
   rw [e1] at hs ⊢
   refine ⟨_,hmap, .inr ⟨rfl,ha1,D1,o1,l1,?_,hs⟩⟩
   refine h1.crs (by omega) (by omega) (fun m h2 h3=>?_) (fun m h2 h3=>?_) ((c1 _ hc).mono (by omega))
   ·rw [List.take_of_length_le (by omega)]
    exact hcon.mono (Nat.le_refl _) (by omega)
   ·rw [List.take_of_length_le (by omega)]
    exact List.mem_singleton_self _
theorem format_find (d n k m slot turn lim:Nat) (D D1:Dk) (sf:Nat→Nat) (hn:64≤n∧n≤65536) (ho:D.off=false) (hl:D.cells.length=n) (hf:formatX D=(D1,0)) (hg:Good D1 ⟨slot,turn,[]⟩ sf lim) (hl1:D1.cells.length=n) (ha:D1.armed=0) (haD:D.armed≤9223372036854775807) (hcD:Cnt D m) (hc:Cnt D1 m) (hm:m+2≤20000*k+100) (hk:k≤10000) (hlim:lim+3≤4*k+8)
  (h:Sat w0 (Disk d D*F) w):
  Calls Tryz.prog 18 #[.pointer (some ⟨d,0,none⟩)] w fun x w'=>x = .returned (.int .i64 0)∧ ∃ D' S',openX D'=(some S',0)∧FndI n 0 k D' S' [[]]∧D'.armed=0∧Sat w0 (Disk d D'*F) w':=by
 refine (format_st d n m slot turn lim D D1 sf hn ho hl hf hg hl1 ha haD hcD hc (by omega) (by omega) h).mono ?_
 rintro x w' ⟨rfl,D',sl,tu,lo,a,b,sf',h1,h2,h3,h4⟩
 obtain ⟨S',h5,h6⟩:=Dsx.again (bs:=[]) h1 (by omega)
 refine ⟨rfl,D',S',h5,⟨sf',lim+2+1,2,[],[],_,h6,⟨img_nil,(fun c hc=>by cases hc),by simp,?_,(fun x hx=>by cases hx),Nat.zero_le _⟩,List.mem_singleton_self _,by omega,by omega,h2.mono (by omega)⟩,h3,h4⟩
 show 0+400≤imgN n*480
 have:=(img_le hn.2).1
 omega
end
def Sto (w0:World) (F:SP) (b d n t k a nx:Nat) (M:List Kv) (olds:Int→Option (List Kv)) (w:World):Prop:=
 ∃ s S v D,StI n t k D S v M olds∧D.armed≤a∧v.next=nx∧Sat w0 (DbP b d s v*(SpaceP s d S*(Disk d D*F))) w
section
variable {w0 w w':World} {F F':SP} {b d n t k a nx:Nat} {M:List Kv} {olds:Int→Option (List Kv)}
theorem Sto.sat (h:Sto w0 F b d n t k a nx M olds w):Sat w0 F w:=by
 obtain ⟨s,S,v,D,h1,h2,h3,h4⟩:=h
 exact h4.right.right.right
theorem Sto.map (h:Sto w0 F b d n t k a nx M olds w) (f: ∀ G,Sat w0 (G*F) w→Sat w0 (G*F') w'):Sto w0 F' b d n t k a nx M olds w':=by
 obtain ⟨s,S,v,D,h1,h2,h3,h4⟩:=h
 exact ⟨s,S,v,D,h1,h2,h3,(f _ (h4.of (show _=DbP b d s v*(SpaceP s d S*Disk d D)*F by ac_rfl))).of (by ac_rfl)⟩
theorem Sto.new (h:Sto w0 F b d n t k a nx M olds w) (hk:Chg No w w'):Sto w0 F b d n t k a nx M olds w':=h.map fun G hG=>hG.new hk
theorem Sto.mono (h:Sto w0 F b d n t k a nx M olds w) {t' k':Nat} (ht:t≤t') (hk:k≤k'):Sto w0 F b d n t' k' a nx M olds w:=by
 obtain ⟨s,S,v,D,h1,h2,h3,h4⟩:=h
 exact ⟨s,S,v,D,h1.mono ht hk,h2,h3,h4⟩
theorem Sto.drop {A:SP} (h:Sto w0 (A*F) b d n t k a nx M olds w):Sto w0 F b d n t k a nx M olds w:=h.map fun G hG=>hG.up2.right
theorem Sto.pairs (h:Sto w0 F b d n t k a nx M olds w):M.Pairwise kLT∧M.length≤t∧ ∀ p ∈ M,p.1.length≤200∧p.2.length≤20000:=by
 obtain ⟨s,S,v,D,h1,h2,h3,h4⟩:=h
 have h5:=h1.mem.img
 refine ⟨h1.mem.pairs,?_,mem_sizes h1.mem⟩
 have:=h5.2.2.1
 rw [←h5.2.1,List.length_map]
 exact this
theorem sget (K:Slc) (hk:Rd w K.1 K.2.2) (ht:t≤1024) (h:Sto w0 F b d n t k a nx M olds w):
  Calls Tryz.prog 32 #[.pointer (some ⟨b,0,none⟩), .slice K.1 K.2.2.length K.2.1] w fun x w'=> ∃ A c,x = .returned (.tuple #[.slice A ((getK K.2.2 M).getD []).length c, .bool (getK K.2.2 M).isSome])∧Sto w0 (Row 5 1 (.slice A ((getK K.2.2 M).getD []).length c) ((getK K.2.2 M).getD []).length (((getK K.2.2 M).getD []).map bv)*F) b d n t k a nx M olds w':=by
 obtain ⟨s,S,v,D,h1,h2,h3,h4⟩:=h
 have h9:=get_st b d s v K hk h4 (by have:=h1.mem.len;omega)
 rw [h1.mem.tells] at h9
 refine h9.mono ?_
 rintro x w' ⟨A,c,rfl,hs⟩
 exact ⟨A,c,rfl,s,S,v,D,h1,h2,h3,hs.of (by ac_rfl)⟩
theorem sscan (f tt:Slc) (most:Int) (hf:Rd w f.1 f.2.2) (ht':Rd w tt.1 tt.2.2) (ht:t≤1024) (h:Sto w0 F b d n t k a nx M olds w):
  Calls Tryz.prog 24 #[.pointer (some ⟨b,0,none⟩), .slice f.1 f.2.2.length f.2.1, .slice tt.1 tt.2.2.length tt.2.1, .int .i64 most] w fun x w'=> ∃ (es qs:List En) (B:Option Addr) (c:Nat),x = .returned (.slice B qs.length c)∧(∀ q ∈ qs,q ∈ es)∧qs.map (fun q=>pairE q.ent)=(cutM f.2.2 tt.2.2 M).take most.toNat∧
   Sto w0 (Row 65 2 (.slice B qs.length c) qs.length (qs.flatMap prV)*(OwnE es*F)) b d n t k a nx M olds w':=by
 obtain ⟨s,S,v,D,h1,h2,h3,h4⟩:=h
 have h9:=scan_st b d s v f tt most hf ht' h4 (by have:=h1.mem.len;omega)
 rw [h1.mem.view] at h9
 refine h9.mono ?_
 rintro x w' ⟨es,qs,B,c,rfl,h5,h6,hs⟩
 exact ⟨es,qs,B,c,rfl,h5,h6,s,S,v,D,h1,h2,h3,hs.of (by ac_rfl)⟩
theorem scount (ht:t≤1024) (h:Sto w0 F b d n t k a nx M olds w):
  Calls Tryz.prog 31 #[.pointer (some ⟨b,0,none⟩)] w fun x w'=>x = .returned (.int .i64 (M.length:Nat))∧Sto w0 F b d n t k a nx M olds w':=by
 obtain ⟨s,S,v,D,h1,h2,h3,h4⟩:=h
 have h9:=count_st b d s v h4 (by have:=h1.mem.len;omega)
 rw [h1.mem.view] at h9
 exact h9.mono fun x w' ⟨h5,h6⟩=>⟨h5,s,S,v,D,h1,h2,h3,h6⟩
def snapO (olds:Int→Option (List Kv)) (nx:Nat) (M:List Kv):Int→Option (List Kv):=fun j=>if j=((nx:Nat):Int) then some M else olds j
theorem ssnap (hk:k≤10000) (h:Sto w0 F b d n t k a nx M olds w):
  Calls Tryz.prog 41 #[.pointer (some ⟨b,0,none⟩)] w fun x w'=>x = .returned (.int .i64 (nx:Nat))∧Sto w0 F b d n t (k+1) a (nx+1) M (snapO olds nx M) w':=by
 obtain ⟨s,S,v,D,h1,h2,h3,h4⟩:=h
 have hf:=h1.few
 have h9:=snap_st b d s v h4 (by omega) (by omega)
 refine h9.mono ?_
 rintro x w' ⟨rfl,hs⟩
 subst h3
 obtain ⟨sf,lim,i,E,bs,q1,q2,q3,q4,q5,q6⟩:=h1.dsk
 refine ⟨rfl,s,S,{ v with snaps:=fun j=>if j=((v.next:Nat):Int) then some v.seq else v.snaps j,few:=v.few+1,next:=v.next+1 },D,⟨⟨sf,lim,i,E,bs,q1,q2,q3,q4,by omega,by omega⟩,h1.mem,fun j=>?_,h1.cnt.mono (by omega),?_⟩,h2,rfl,hs⟩
 ·by_cases hj:j=((v.next:Nat):Int)
  ·refine .inr ⟨v.seq,M,?_,?_,Nat.le_refl _,h1.mem.pairs,fun ky=>h1.mem.tells ky⟩
   ·show (if j=((v.next:Nat):Int) then some v.seq else v.snaps j)=_
    rw [if_pos hj]
   ·unfold snapO;rw [if_pos hj]
  ·rcases h1.snaps j with ⟨g1,g2⟩ | ⟨q,Mo,g1,g2,g3⟩
   ·refine .inl ⟨?_,?_⟩
    ·show (if j=((v.next:Nat):Int) then some v.seq else v.snaps j)=_
     rw [if_neg hj,g1]
    ·unfold snapO;rw [if_neg hj,g2]
   ·refine .inr ⟨q,Mo,?_,?_,g3⟩
    ·show (if j=((v.next:Nat):Int) then some v.seq else v.snaps j)=_
     rw [if_neg hj,g1]
    ·unfold snapO;rw [if_neg hj,g2]
 ·show v.seq≤k+1∧v.few+1≤k+1∧v.next+1≤k+1+1
  omega
def dropO (olds:Int→Option (List Kv)) (i:Int):Int→Option (List Kv):=fun j=>if j=i then none else olds j
theorem sdrop (i:Int) (hi: -9223372036854775808≤i∧i≤9223372036854775807) (h:Sto w0 F b d n t k a nx M olds w):
  Calls Tryz.prog 43 #[.pointer (some ⟨b,0,none⟩), .int .i64 i] w fun x w'=>x = .returned (.int .i64 (if (olds i).isSome=true then 0 else 104))∧Sto w0 F b d n t k a nx M (dropO olds i) w':=by
 obtain ⟨s,S,v,D,h1,h2,h3,h4⟩:=h
 refine (drop_st b d s v i hi h4).mono ?_
 rintro x w' ⟨rfl,hs⟩
 have he:(v.snaps i).isSome=(olds i).isSome:=by
  rcases h1.snaps i with ⟨g1,g2⟩ | ⟨q,Mo,g1,g2,g3⟩<;>rw [g1,g2]<;>rfl
 rw [he]
 refine ⟨rfl,s,S,{ v with snaps:=fun j=>if j=i then none else v.snaps j },D,⟨h1.dsk,h1.mem,fun j=>?_,h1.cnt,h1.few⟩,h2,h3,hs⟩
 by_cases hj:j=i
 ·refine .inl ⟨?_,?_⟩
  ·show (if j=i then none else v.snaps j)=none
   rw [if_pos hj]
  ·unfold dropO;rw [if_pos hj]
 ·rcases h1.snaps j with ⟨g1,g2⟩ | ⟨q,Mo,g1,g2,g3⟩
  ·refine .inl ⟨?_,?_⟩
   ·show (if j=i then none else v.snaps j)=none
    rw [if_neg hj,g1]
   ·unfold dropO;rw [if_neg hj,g2]
  ·refine .inr ⟨q,Mo,?_,?_,g3⟩
   ·show (if j=i then none else v.snaps j)=some q
    rw [if_neg hj,g1]
   ·unfold dropO;rw [if_neg hj,g2]
theorem sgetAt (i:Int) (K:Slc) (hi: -9223372036854775808≤i∧i≤9223372036854775807) (hk:Rd w K.1 K.2.2) (ht:t≤1024) (h:Sto w0 F b d n t k a nx M olds w) (q:Option (List UInt8)) (er:Int) (hq:(olds i=none∧q=none∧er=104)∨ ∃ Mo,olds i=some Mo∧q=getK K.2.2 Mo∧er=0):
  Calls Tryz.prog 42 #[.pointer (some ⟨b,0,none⟩), .int .i64 i, .slice K.1 K.2.2.length K.2.1] w fun x w'=> ∃ A c,x = .returned (.tuple #[.slice A (q.getD []).length c, .bool q.isSome, .int .i64 er])∧Sto w0 (Row 5 1 (.slice A (q.getD []).length c) (q.getD []).length ((q.getD []).map bv)*F) b d n t k a nx M olds w':=by
 obtain ⟨s,S,v,D,h1,h2,h3,h4⟩:=h
 refine (getAt_st b d s v i K hi hk h4 (by have:=h1.mem.len;omega) q er ?_).mono ?_
 ·rcases h1.snaps i with ⟨g1,g2⟩ | ⟨sq,Mo,g1,g2,g3,g4,g5⟩
  ·rcases hq with ⟨q1,q2,q3⟩ | ⟨Mo,q1,q2,q3⟩
   ·exact .inl ⟨g1,q2,q3⟩
   ·rw [g2] at q1;cases q1
  ·rcases hq with ⟨q1,q2,q3⟩ | ⟨Mo2,q1,q2,q3⟩
   ·rw [g2] at q1;cases q1
   ·rw [g2] at q1
    injection q1 with q1
    subst q1
    exact .inr ⟨sq,g1,by rw [q2,g5],q3⟩
 ·rintro x w' ⟨A,c,rfl,hs⟩
  exact ⟨A,c,rfl,s,S,v,D,h1,h2,h3,hs.of (by ac_rfl)⟩
theorem swrite (A:Option Addr) (c:Nat) (ps:List Pu) (cs:List Chn) (hcs:ps.map Pu.chn=cs) (hk:k≤10000) (ht:t+ps.length≤1024) (h:Sto w0 F b d n t k 0 nx M olds w)
  (hb: ∀ W,Sat w0 F W→RdV W A (ps.flatMap puC)∧PusR W ps) (hz: ∀ p ∈ ps,p.key.2.2.length≤1000000000∧p.value.2.2.length≤1000000000) (hc:chkB cs=0) (hf:fullB n (putsM cs M) cs=false):
  Calls Tryz.prog 20 #[.pointer (some ⟨b,0,none⟩), .slice A ps.length c] w fun x w'=>x = .returned (.int .i64 0)∧Sto w0 F b d n (t+ps.length) (k+1) 0 nx (putsM cs M) olds w':=by
 subst hcs
 obtain ⟨s,S,v,D,h1,h2,h3,h4⟩:=h
 refine (write_st b d s v n t k D S M olds A c ps h1 hk ht (by omega) h4 hb hz).mono ?_
 rintro x w' (⟨g1,_⟩ | ⟨g1,g2,_⟩ | ⟨g1,g2,rfl,S',D',v',g3,g4,g5,g6,g7,g8⟩ | ⟨_,_,_,g1,_⟩)
 ·exact absurd hc g1
 ·rw [hf] at g2;cases g2
 ·rw [List.length_map] at g3
  exact ⟨rfl,s,S',v',D',g3,by omega,by omega,g8⟩
 ·omega
theorem stidy (hk:k≤10000) (ht:t≤1024) (h:Sto w0 F b d n t k 0 nx M olds w):
  Calls Tryz.prog 35 #[.pointer (some ⟨b,0,none⟩)] w fun x w'=>x = .returned (.int .i64 0)∧Sto w0 F b d n t (k+1) 0 nx M olds w':=by
 obtain ⟨s,S,v,D,h1,h2,h3,h4⟩:=h
 refine (tidy_st b d s v n t k D S M olds h1 hk ht (by omega) h4).mono ?_
 rintro x w' (⟨rfl,S',D',v',g3,g4,g5,g6,g7,g8⟩ | ⟨_,g1,_⟩)
 ·exact ⟨rfl,s,S',v',D',g3,by omega,by omega,g8⟩
 ·omega
theorem sopen (hk:k≤5000) (ht:t≤1024) (h:Sto w0 F b d n t k 0 nx M olds w):
  Calls Tryz.prog 19 #[.pointer (some ⟨d,0,none⟩)] w fun x w'=> ∃ b',x = .returned (.tuple #[.pointer (some ⟨b',0,none⟩), .int .i64 0])∧Sto w0 F b' d n t (k+2) 0 1 M (fun _=>none) w':=by
 obtain ⟨s,S,v,D,h1,h2,h3,h4⟩:=h
 obtain ⟨S',e1,e2⟩:=h1.again (by omega)
 refine (open_find d n t (k+1) D e2 e1 ht (by omega) (by omega) (h4.right.right)).mono ?_
 rintro x w' ⟨M',hM,⟨b',s',S2,D2,v2,rfl,g1,g2,g3,g4,g5⟩ | ⟨_,g1,_⟩⟩
 ·rw [List.mem_singleton] at hM
  subst hM
  exact ⟨b',rfl,s',S2,v2,D2,g1,by omega,g4,g5⟩
 ·omega
end
section
variable {w0 w w':World} {F F':SP} {b d n t k a nx:Nat} {M:List Kv} {olds:Int→Option (List Kv)}
theorem lit_fi {e:TypeId} {B:Nat} {cs:Array Value} {W:World} (h:Sat w0 (Pt B e cs*F) W) {xs:List Value} (hx:cs.toList=xs):RdV W (some ⟨B,0,none⟩) xs:=by
 subst hx
 exact RdV.of_at h.at (fun j hj=>by rw [Array.getElem?_toList.symm,List.getElem?_eq_getElem hj])
theorem Sto.al (h:Sto w0 F b d n t k a nx M olds w) (o:Obj):Sto w0 (Ow w.heap.size o*F) b d n t k a nx M olds (w.alloc o):=h.map fun G hG=>(hG.alloc o).up2
theorem num10_any (x:Int) (w:World):Calls Tryz.prog 29 #[.int .i64 x] w fun e w'=>e = .returned (.int .i64 x)∧w=w':=by
 go_enter Tryz.func29, Tryz.ntmps29
 go_wp2_with fail
 go_ret
 exact ⟨rfl,rfl⟩
set_option maxHeartbeats 1000000 in
theorem begin10_any (n:Nat) (h:64≤n∧n≤65536) (hs:Sat w0 F w):
  Calls Tryz.prog 25 #[.int .i64 (n:Int)] w fun e w'=> ∃ d b,e = .returned (.tuple #[.pointer (some ⟨d,0,none⟩), .pointer (some ⟨b,0,none⟩)])∧Sto w0 F b d n 0 1 0 1 [] (fun _=>none) w':=by
 have HNew:Hid (Calls Tryz.prog 16 #[.int .i64 (n:Int)] w fun e w'=> ∃ d,e = .returned (.tuple #[.pointer (some ⟨d,0,none⟩), .int .i64 0])∧Sat w0 (Disk d (Dk.new n)*F) w'):=(new_any (n:Int) w0 w F hs).mono fun e w' h9=>by
  unfold NewD at h9
  rw [if_pos (by omega),Int.toNat_natCast] at h9
  exact h9
 have HFo:Hid (∀ W d,Sat w0 (Disk d (Dk.new n)*F) W→Calls Tryz.prog 18 #[.pointer (some ⟨d,0,none⟩)] W fun e w'=>e = .returned (.int .i64 0)∧Hid (∃ D' S',openX D'=(some S',0)∧FndI n 0 0 D' S' [[]]∧D'.armed=0∧Sat w0 (Disk d D'*F) w')):=fun W d hW=>
  format_find d n 0 1 1 1 1 (Dk.new n) (beginD n) (fun _=>0) h rfl (by unfold Dk.new;simp) (formatX_new (by omega)) (begin_good (by omega) h.2) begin_len begin_armed (by show 0≤_;omega) ⟨Nat.zero_le _,Nat.zero_le _⟩ begin_cnt (by omega) (by omega) (by omega) hW
 have HOp:Hid (∀ W d,(∃ D' S',openX D'=(some S',0)∧FndI n 0 0 D' S' [[]]∧D'.armed=0∧Sat w0 (Disk d D'*F) W)→Calls Tryz.prog 19 #[.pointer (some ⟨d,0,none⟩)] W fun e w'=> ∃ b,e = .returned (.tuple #[.pointer (some ⟨b,0,none⟩), .int .i64 0])∧Sto w0 F b d n 0 1 0 1 [] (fun _=>none) w'):=fun W d ⟨D',S',h1,h2,h3,h4⟩=>by
  refine (open_find d n 0 0 D' h2 h1 (by omega) (by omega) (by omega) h4).mono ?_
  rintro x w' ⟨M',hM,⟨b',s',S2,D2,v2,rfl,g1,g2,g3,g4,g5⟩ | ⟨_,g1,_⟩⟩
  ·rw [List.mem_singleton] at hM
   subst hM
   exact ⟨b',rfl,s',S2,v2,D2,g1,by omega,g4,g5⟩
  ·omega
 clear hs h
 go_enter Tryz.func25, Tryz.ntmps25
 go_wp2_with (first
  | (go_at_call 16;(with_reducible refine HNew.out.mono ?_);rintro e w2 ⟨d,rfl,hs⟩;have HS2:=Lib.hid hs;clear hs)
  | (go_at_call 29;(with_reducible refine (num10_any _ _).mono ?_);rintro e wx ⟨rfl,rfl⟩)
  | (go_at_call 18;(with_reducible refine (HFo.out _ _ HS2.out).mono ?_);rintro e w3 ⟨rfl,HS3⟩)
  | (go_at_call 19;(with_reducible refine (HOp.out _ _ HS3.out).mono ?_);rintro e w4 ⟨b,rfl,hs⟩;have HS4:=Lib.hid hs;clear hs))
 go_ret2
 exact ⟨d,b,rfl,HS4.out⟩
def wkB1:List Chn:=[⟨[97],[49],false⟩,⟨[98],[50],false⟩]
def wkB2:List Chn:=[⟨[97],[],true⟩]
def wkM1:List Kv:=[([97],[49]),([98],[50])]
def wkM2:List Kv:=[([98],[50])]
theorem wk_m1:putsM wkB1 []=wkM1:=by decide
theorem wk_m2:putsM wkB2 wkM1=wkM2:=by decide
theorem wk_c1:chkB wkB1=0:=by decide
theorem wk_c2:chkB wkB2=0:=by decide
theorem wk_f1:fullB 1024 (putsM wkB1 []) wkB1=false:=by rw [wk_m1];decide
theorem wk_f2:fullB 1024 (putsM wkB2 wkM1) wkB2=false:=by rw [wk_m2];decide
abbrev by1 (x:Int):Obj:= .cells #[.int .u8 x] 5 (1,2)
theorem wk_w1 {k nx:Nat} (hk:k≤1000) (h:Sto w0 F b d 1024 0 k 0 nx [] olds w):
  Calls Tryz.prog 20 #[.pointer (some ⟨b,0,none⟩), .slice (some ⟨w.heap.size+1+1+1+1,0,none⟩) 2 2] (((((w.alloc (by1 97)).alloc (by1 49)).alloc (by1 98)).alloc (by1 50)).alloc (.cells #[.slice (some ⟨w.heap.size,0,none⟩) 1 1, .slice (some ⟨w.heap.size+1,0,none⟩) 1 1, .bool false, .slice (some ⟨w.heap.size+1+1,0,none⟩) 1 1, .slice (some ⟨w.heap.size+1+1+1,0,none⟩) 1 1, .bool false] 43)) fun x w'=>x = .returned (.int .i64 0)∧Sto w0 F b d 1024 2 (k+1) 0 nx wkM1 olds w':=by
 have h5:=((((h.al (by1 97)).al (by1 49)).al (by1 98)).al (by1 50)).al (.cells #[.slice (some ⟨w.heap.size,0,none⟩) 1 1, .slice (some ⟨w.heap.size+1,0,none⟩) 1 1, .bool false, .slice (some ⟨w.heap.size+1+1,0,none⟩) 1 1, .slice (some ⟨w.heap.size+1+1+1,0,none⟩) 1 1, .bool false] 43)
 simp only [World.size_alloc] at h5
 generalize w.heap.size=g at*
 refine (swrite (some ⟨g+1+1+1+1,0,none⟩) 2 [⟨(some ⟨g,0,none⟩,1,[97]),(some ⟨g+1,0,none⟩,1,[49]),false⟩,⟨(some ⟨g+1+1,0,none⟩,1,[98]),(some ⟨g+1+1+1,0,none⟩,1,[50]),false⟩] wkB1 rfl (by omega) (by show 0+2≤1024;omega) h5 (fun W hW=>⟨lit_fi hW rfl,fun p hp=>?_⟩) (fun p hp=>?_) wk_c1 wk_f1).mono ?_
 ·rcases List.mem_cons.1 hp with rfl | hp
  ·exact ⟨ow_rd (l:=[97]) hW.up5,ow_rd (l:=[49]) hW.up4⟩
  ·rw [List.mem_singleton] at hp
   subst hp
   exact ⟨ow_rd (l:=[98]) hW.up3,ow_rd (l:=[50]) hW.up2⟩
 ·rcases List.mem_cons.1 hp with rfl | hp
  ·exact ⟨by show 1≤_;omega,by show 1≤_;omega⟩
  ·rw [List.mem_singleton] at hp
   subst hp
   exact ⟨by show 1≤_;omega,by show 1≤_;omega⟩
 ·rintro x w' ⟨rfl,h6⟩
  rw [wk_m1] at h6
  exact ⟨rfl,h6.drop.drop.drop.drop.drop⟩
theorem wk_w2 {k nx:Nat} (hk:k≤1000) (h:Sto w0 F b d 1024 2 k 0 nx wkM1 olds w):
  Calls Tryz.prog 20 #[.pointer (some ⟨b,0,none⟩), .slice (some ⟨w.heap.size+1,0,none⟩) 1 1] ((w.alloc (by1 97)).alloc (.cells #[.slice (some ⟨w.heap.size,0,none⟩) 1 1, .slice none 0 0, .bool true] 43)) fun x w'=>x = .returned (.int .i64 0)∧Sto w0 F b d 1024 3 (k+1) 0 nx wkM2 olds w':=by
 have h5:=(h.al (by1 97)).al (.cells #[.slice (some ⟨w.heap.size,0,none⟩) 1 1, .slice none 0 0, .bool true] 43)
 simp only [World.size_alloc] at h5
 generalize w.heap.size=g at*
 refine (swrite (some ⟨g+1,0,none⟩) 1 [⟨(some ⟨g,0,none⟩,1,[97]),(none,0,[]),true⟩] wkB2 rfl (by omega) (by show 2+1≤1024;omega) h5 (fun W hW=>⟨lit_fi hW rfl,fun p hp=>?_⟩) (fun p hp=>?_) wk_c2 wk_f2).mono ?_
 ·rw [List.mem_singleton] at hp
  subst hp
  exact ⟨ow_rd (l:=[97]) hW.up2,Rd.nil _ _⟩
 ·rw [List.mem_singleton] at hp
  subst hp
  exact ⟨by show 1≤_;omega,by show 0≤_;omega⟩
 ·rintro x w' ⟨rfl,h6⟩
  rw [wk_m2] at h6
  exact ⟨rfl,h6.drop.drop⟩
theorem lit_get_no {x:UInt8} (hx:getK [x] M=none) (ht:t≤1024) (h:Sto w0 F b d n t k a nx M olds w) (g:Int) (hg:g=x.toNat):
  Calls Tryz.prog 32 #[.pointer (some ⟨b,0,none⟩), .slice (some ⟨w.heap.size,0,none⟩) 1 1] (w.alloc (by1 g)) fun e w'=> ∃ A c,e = .returned (.tuple #[.slice A 0 c, .bool false])∧Sto w0 F b d n t k a nx M olds w':=by
 subst hg
 have h5:=h.al (by1 x.toNat)
 refine (sget (some ⟨w.heap.size,0,none⟩,1,[x]) (ow_rd (l:=[x]) h5.sat) ht h5).mono ?_
 rintro e w' ⟨A,c,rfl,h6⟩
 rw [hx] at h6 ⊢
 exact ⟨A,c,rfl,h6.drop.drop⟩
theorem lit_get_yes {x:UInt8} {v:List UInt8} (hx:getK [x] M=some v) (ht:t≤1024) (h:Sto w0 F b d n t k a nx M olds w) (g:Int) (hg:g=x.toNat) (m:Nat) (hm:v.length=m):
  Calls Tryz.prog 32 #[.pointer (some ⟨b,0,none⟩), .slice (some ⟨w.heap.size,0,none⟩) 1 1] (w.alloc (by1 g)) fun e w'=> ∃ A c,e = .returned (.tuple #[.slice A m c, .bool true])∧Sto w0 (Row 5 1 (.slice A v.length c) v.length (v.map bv)*F) b d n t k a nx M olds w':=by
 subst hg;subst hm
 have h5:=h.al (by1 x.toNat)
 refine (sget (some ⟨w.heap.size,0,none⟩,1,[x]) (ow_rd (l:=[x]) h5.sat) ht h5).mono ?_
 rintro e w' ⟨A,c,rfl,h6⟩
 rw [hx] at h6 ⊢
 exact ⟨A,c,rfl,(h6.map fun G hG=>hG.up3.right:Sto w0 _ b d n t k a nx M olds w')⟩
theorem lit_at_yes {x:UInt8} {v:List UInt8} {Mo:List Kv} (i:Int) (hi: -9223372036854775808≤i∧i≤9223372036854775807) (ho:olds i=some Mo) (hx:getK [x] Mo=some v) (ht:t≤1024) (h:Sto w0 F b d n t k a nx M olds w) (g:Int) (hg:g=x.toNat) (m:Nat) (hm:v.length=m):
  Calls Tryz.prog 42 #[.pointer (some ⟨b,0,none⟩), .int .i64 i, .slice (some ⟨w.heap.size,0,none⟩) 1 1] (w.alloc (by1 g)) fun e w'=> ∃ A c,e = .returned (.tuple #[.slice A m c, .bool true, .int .i64 0])∧Sto w0 (Row 5 1 (.slice A v.length c) v.length (v.map bv)*F) b d n t k a nx M olds w':=by
 subst hg;subst hm
 have h5:=h.al (by1 x.toNat)
 refine (sgetAt i (some ⟨w.heap.size,0,none⟩,1,[x]) hi (ow_rd (l:=[x]) h5.sat) ht h5 (some v) 0 (.inr ⟨Mo,ho,hx.symm,rfl⟩)).mono ?_
 rintro e w' ⟨A,c,rfl,h6⟩
 exact ⟨A,c,rfl,(h6.map fun G hG=>hG.up3.right:Sto w0 _ b d n t k a nx M olds w')⟩
theorem row_str {A:Option Addr} {c:Nat} {v:List UInt8} {W:World} (h:Sat w0 (Row 5 1 (.slice A v.length c) v.length (v.map bv)*F) W):(convert 41 9 (.slice A v.length c)).run Tryz.prog W = .ok (.string ⟨v.toArray⟩) W:=
 Rd.str (P:= Tryz.prog) h.row_rdK 41 9 5 Tryz.underlying41 Tryz.underlying5 Tryz.underlying9 c
theorem conv_const (W:World) (C:Array Value) (n c g:Nat) (hg:g=W.heap.size):(convert 41 41 (.slice (some ⟨g,0,none⟩) n c)).run Tryz.prog (W.alloc (.cells C 5)) = .ok (.slice (some ⟨g,0,none⟩) n c) (W.alloc (.cells C 5 (C.size,C.size+1))):=by
 subst hg
 exact Lib.run_convert_bytes_const (P:= Tryz.prog) W 41 5 C n c Tryz.underlying41 Tryz.underlying5
set_option maxHeartbeats 4000000 in
theorem wakes10_any (hs:Sat w0 F w):Calls Tryz.prog 26 #[] w fun e w'=>e = .returned (.bool true)∧Sat w0 F w':=by
 have HB:Hid (Calls Tryz.prog 25 #[.int .i64 1024] w fun e w'=> ∃ d b,e = .returned (.tuple #[.pointer (some ⟨d,0,none⟩), .pointer (some ⟨b,0,none⟩)])∧Sto w0 F b d 1024 0 1 0 1 [] (fun _=>none) w'):=begin10_any (w0:=w0) (w:=w) (F:=F) 1024 (by omega) hs
 have hcv:=conv_const
 clear hs
 go_enter Tryz.func26, Tryz.ntmps26
 go_upto_region 4 with (go_at_call 25;(with_reducible refine HB.out.mono ?_);rintro e w2 ⟨d,b,rfl,hs⟩;have HS2:=Lib.hid hs;clear hs)
 go_upto_region 6 with (first
  | (go_at_call 20;(with_reducible refine (wk_w1 (by omega) HS2.out).mono ?_);rintro e w3 ⟨rfl,hs⟩;have HS3:=Lib.hid hs;clear hs)
  | (go_at_call 41;(with_reducible refine (ssnap (by omega) HS3.out).mono ?_);rintro e w4 ⟨rfl,hs⟩;have HS4:=Lib.hid hs;clear hs))
 go_upto_region 7 with (go_at_call 20;(with_reducible refine (wk_w2 (by omega) HS4.out).mono ?_);rintro e w5 ⟨rfl,hs⟩;have HS5:=Lib.hid hs;clear hs)
 go_upto_region 9 with (first
  | (go_at_call 32;(with_reducible refine (lit_get_no (x:=97) (by decide) (by omega) HS5.out 97 (by decide)).mono ?_);rintro e w6 ⟨A6,c6,rfl,hs⟩;have HS6:=Lib.hid hs;clear hs)
  | (go_at_call 42;(with_reducible refine (lit_at_yes (x:=97) (v:=[49]) (Mo:=wkM1) 1 (by omega) rfl (by decide) (by omega) HS6.out 97 (by decide) 1 rfl).mono ?_);rintro e w7 ⟨A7,c7,rfl,hs⟩;have HS7:=Lib.hid hs;clear hs))
 go_upto_region 13 with (first
  | (go_at_call 19;(with_reducible refine (sopen (by omega) (by omega) HS7.out).mono ?_);rintro e w8 ⟨b2,rfl,hs⟩;have HS8:=Lib.hid hs;clear hs)
  | (go_at_call 29;(with_reducible refine (num10_any _ _).mono ?_);rintro e wx ⟨rfl,rfl⟩)
  | (go_at_call 32;(with_reducible refine (lit_get_yes (x:=98) (v:=[50]) (by decide) (by omega) HS8.out 98 (by decide) 1 rfl).mono ?_);rintro e w9 ⟨A9,c9,rfl,hs⟩;have HS9:=Lib.hid hs;clear hs))
 obtain ⟨SA,hSA⟩: ∃ SA,SA=ByteArray.mk [49].toArray:=⟨_,rfl⟩
 obtain ⟨SB,hSB⟩: ∃ SB,SB=ByteArray.mk [50].toArray:=⟨_,rfl⟩
 have s1:(convert 41 9 (.slice A7 1 c7)).run Tryz.prog w9 = .ok (.string SA) w9:=by rw [hSA];exact row_str (v:=[49]) HS9.out.sat.right
 have s2:(convert 41 9 (.slice A9 1 c9)).run Tryz.prog w9 = .ok (.string SB) w9:=by rw [hSB];exact row_str (v:=[50]) HS9.out.sat
 have hc1:(SA.toList==[49])=true:=by
  have h9:SA.toList=[49]:=by rw [hSA];simp
  rw [h9];rfl
 have hc2:(SB.toList==[50])=true:=by
  have h9:SB.toList=[50]:=by rw [hSB];simp
  rw [h9];rfl
 clear hSA hSB
 go_wp2_with (first
  | (go_at_call 29;(with_reducible refine (num10_any _ _).mono ?_);rintro e wx ⟨rfl,rfl⟩)
  | (go_at_call 31;(with_reducible refine (scount (by omega) HS9.out).mono ?_);rintro e w10 ⟨rfl,hs⟩;have HS10:=Lib.hid hs;clear hs))
 go_ret
 exact ⟨rfl,HS10.out.sat.right.right⟩
end
def keyB (x:Int):List UInt8:=[107,UInt8.ofNat (97+(x % 8).toNat),UInt8.ofNat (97+(x / 8 % 8).toNat)]
theorem keyB_bv (x:Int):((keyB x).map bv).toArray = #[.int .u8 107, .int .u8 (97+x % 8), .int .u8 (97+x / 8 % 8)]:=by
 have h1:(UInt8.ofNat (97+(x % 8).toNat)).toNat=97+(x % 8).toNat:=by rw [UInt8.toNat_ofNat',Nat.mod_eq_of_lt (by omega)]
 have h2:(UInt8.ofNat (97+(x / 8 % 8).toNat)).toNat=97+(x / 8 % 8).toNat:=by rw [UInt8.toNat_ofNat',Nat.mod_eq_of_lt (by omega)]
 show #[bv 107,bv _,bv _]=_
 unfold bv
 rw [h1,h2]
 have e1:((97+(x % 8).toNat:Nat):Int)=97+x % 8:=by omega
 have e2:((97+(x / 8 % 8).toNat:Nat):Int)=97+x / 8 % 8:=by omega
 rw [e1,e2]
 rfl
def SmlM (M:List Kv):Prop:= ∀ p ∈ M,p.1.length+p.2.length≤10
theorem sml_siz: ∀ {M:List Kv},SmlM M→sizM M≤M.length*50
 | [],_=>Nat.le_refl _
 | p::M,h=>by
  have h1:=sml_siz (M:=M) fun q hq=>h q (List.mem_cons_of_mem _ hq)
  have h2:=h p List.mem_cons_self
  unfold sizM at h1 ⊢
  rw [List.map_cons,List.sum_cons,List.length_cons]
  have:sizK p=p.1.length+p.2.length+40:=rfl
  show _+_≤_
  omega
theorem sml_put {M:List Kv} {c:Chn} (h:SmlM M) (hc:c.key.length+c.value.length≤10):SmlM (putM c M):=fun p hp=>by
 rcases putM_mem hp with h1 | rfl
 ·exact h p h1
 ·exact hc
theorem sml_room {M:List Kv} {c:Chn} (h:SmlM M) (hc:c.key.length+c.value.length≤10) (hl:M.length≤600):fullB 1024 (putsM [c] M) [c]=false:=by
 have h1:=sml_siz (sml_put h hc)
 have h2:=putM_len c M
 have h3:(laiB [c]).length=4+c.key.length+c.value.length:=by
  rw [laiB_cons,List.length_append,lai1_len]
  rfl
 unfold fullB
 rw [Bool.or_eq_false_iff,decide_eq_false_iff_not,decide_eq_false_iff_not]
 have e1:imgN 1024=70:=by decide
 have e2:4≤logN 1024:=by decide
 refine ⟨?_,?_⟩
 ·show ¬ imgN 1024*480<sizM (putM c M)+400
  rw [e1]
  omega
 ·rw [h3]
  unfold needN
  rw [if_pos (by omega)]
  omega
section
variable {w0 w w':World} {F F':SP} {b d n t k a nx:Nat} {M:List Kv} {olds:Int→Option (List Kv)}
theorem key10_any (x:Int) (hx: -9223372036854775808≤x∧x≤9223372036854775807) (w:World):Calls Tryz.prog 33 #[.int .i64 x] w fun e w'=>e = .returned (.slice (some ⟨w.heap.size,0,none⟩) 3 3)∧w'=w.alloc (.cells ((keyB x).map bv).toArray 5):=by
 have a7:=and7
 rw [keyB_bv]
 go_enter Tryz.func33, Tryz.ntmps33
 go_wp2_with fail
 go_ret
 exact ⟨rfl,rfl⟩
theorem swrite1 (p:Pu) (g:Nat) (hk:k≤10000) (ht:t+1≤1024) (h:Sto w0 (Ow g (.cells #[slv' p.key,slv' p.value, .bool p.dead] 43)*F) b d n t k 0 nx M olds w) (hp: ∀ W,Sat w0 F W→PuR W p) (hc:ChgOk p.chn) (hf:fullB n (putsM [p.chn] M) [p.chn]=false):
  Calls Tryz.prog 20 #[.pointer (some ⟨b,0,none⟩), .slice (some ⟨g,0,none⟩) 1 1] w fun x w'=>x = .returned (.int .i64 0)∧Sto w0 F b d n (t+1) (k+1) 0 nx (putM p.chn M) olds w':=by
 have h1:p.key.2.2.length≤128:=hc.key.2
 have h2:p.value.2.2.length≤16384:=hc.val
 have hb:BatOk [p.chn]:=⟨fun q hq=>by rw [List.mem_singleton] at hq;subst hq;exact hc,by show sizC p.chn+0≤_;have:sizC p.chn=p.key.2.2.length+p.value.2.2.length+16:=rfl;omega⟩
 refine (swrite (some ⟨g,0,none⟩) 1 [p] [p.chn] rfl hk ht h (fun W hW=>⟨?_,fun q hq=>?_⟩) (fun q hq=>?_) (chk_zero.2 hb) hf).mono ?_
 ·have h9:=lit_fi (xs:=puC p) hW rfl
  rw [List.flatMap_cons,List.flatMap_nil,List.append_nil]
  exact h9
 ·rw [List.mem_singleton] at hq
  subst hq
  exact hp W hW.right
 ·rw [List.mem_singleton] at hq
  subst hq
  exact ⟨by omega,by omega⟩
 ·rintro x w' ⟨rfl,h6⟩
  exact ⟨rfl,h6.drop⟩
end
theorem nodup_len {α:Type} [DecidableEq α]: ∀ (a b:List α),a.Nodup→(∀ x ∈ a,x ∈ b)→a.length≤b.length
 | [],_,_,_=>Nat.zero_le _
 | x::a,b,h,hs=>by
  obtain ⟨h1,h2⟩:=List.nodup_cons.1 h
  have hx:=hs x List.mem_cons_self
  have h3:=nodup_len a (b.erase x) h2 fun y hy=>(List.mem_erase_of_ne (fun e=>h1 (by subst e;exact hy))).2 (hs y (List.mem_cons_of_mem _ hy))
  rw [List.length_erase_of_mem hx] at h3
  have h4:=List.length_pos_of_mem hx
  rw [List.length_cons]
  omega
theorem keyB_inj {j k:Nat} (hj:j<64) (hk:k<64) (h:keyB (j:Int)=keyB (k:Int)):j=k:=by
 unfold keyB at h
 injection h with _ h
 injection h with h1 h
 injection h with h2 _
 have h3:=congrArg UInt8.toNat h1
 have h4:=congrArg UInt8.toNat h2
 rw [UInt8.toNat_ofNat',UInt8.toNat_ofNat',Nat.mod_eq_of_lt (by omega),Nat.mod_eq_of_lt (by omega)] at h3 h4
 omega
def KM (n:Nat) (M:List Kv):Prop:= ∀ p ∈ M, ∃ k:Nat,k<n∧p.1=keyB (k:Int)
theorem KM.put {n:Nat} {M:List Kv} (h:KM n M) {c:Chn} {k:Nat} (hk:k<n) (hc:c.key=keyB (k:Int)):KM n (putM c M):=fun p hp=>by
 rcases putM_mem hp with h1 | rfl
 ·exact h p h1
 ·exact ⟨k,hk,hc⟩
theorem kmap_nodup: ∀ {M:List Kv},M.Pairwise kLT→(M.map (·.1)).Nodup
 | [],_=>List.nodup_nil
 | p::M,h=>by
  obtain ⟨h1,h2⟩:=List.pairwise_cons.1 h
  rw [List.map_cons,List.nodup_cons]
  refine ⟨fun hm=>?_,kmap_nodup h2⟩
  obtain ⟨q,hq,e⟩:=List.mem_map.1 hm
  exact kcb_ne (h1 q hq) e.symm
theorem KM.len {n:Nat} {M:List Kv} (h:KM n M) (hp:M.Pairwise kLT):M.length≤n:=by
 have h1:=nodup_len (M.map (·.1)) ((List.range n).map fun k:Nat=>keyB (k:Int)) (kmap_nodup hp) fun x hx=>by
  obtain ⟨p,hp,rfl⟩:=List.mem_map.1 hx
  obtain ⟨k,hk,e⟩:=h p hp
  exact List.mem_map.2 ⟨k,List.mem_range.2 hk,e.symm⟩
 rwa [List.length_map,List.length_map,List.length_range] at h1
theorem km_nodup: ∀ {n:Nat},n≤64→((List.range n).map fun k:Nat=>keyB (k:Int)).Nodup
 | 0,_=>List.nodup_nil
 | n+1,h=>by
  rw [List.range_succ,List.map_append,List.nodup_append]
  refine ⟨km_nodup (by omega),by simp,fun x hx y hy e=>?_⟩
  obtain ⟨j,hj,rfl⟩:=List.mem_map.1 hx
  rw [List.map_singleton,List.mem_singleton] at hy
  subst hy
  have h1:=List.mem_range.1 hj
  have:=keyB_inj (by omega) (by omega) e
  omega
theorem KM.all {n:Nat} {M:List Kv} (h:KM n M) (hn:n≤64) (hp:M.Pairwise kLT) (ha: ∀ k:Nat,k<n→(getK (keyB (k:Int)) M).isSome=true):M.length=n:=by
 have h1:=h.len hp
 have h2:=nodup_len ((List.range n).map fun k:Nat=>keyB (k:Int)) (M.map (·.1)) (km_nodup hn) fun x hx=>by
  obtain ⟨k,hk,rfl⟩:=List.mem_map.1 hx
  obtain ⟨v,hv⟩:=Option.isSome_iff_exists.1 (ha k (List.mem_range.1 hk))
  exact List.mem_map.2 ⟨_,getK_mem hv,rfl⟩
 rw [List.length_map,List.length_map,List.length_range] at h2
 omega
theorem KM.few {n:Nat} {M:List Kv} (h:KM n M) (hp:M.Pairwise kLT) (hn:n≤600):M.length≤600:=Nat.le_trans (h.len hp) hn
theorem less_nil (k:List UInt8):Op.bytesLess k []=false:=by rw [cb_less];cases k<;>rfl
theorem inK_nil (k:List UInt8):inK [] [] k=true:=by
 unfold inK
 rw [less_nil]
 rfl
theorem cutM_nil (M:List Kv):cutM [] [] M=M:=by
 unfold cutM
 rw [List.filter_eq_self]
 exact fun p _=>inK_nil p.1
theorem odd_inv: ∀ s<16, ∃ v<64,v*(1+2*s) % 64=1:=by decide
theorem odd_all {s k:Nat} (hs:s<16) (hk:k<64): ∃ i<64,i*(1+2*s) % 64=k:=by
 obtain ⟨v,_,hv⟩:=odd_inv s hs
 refine ⟨k*v % 64,Nat.mod_lt _ (by omega),?_⟩
 rw [Nat.mod_mul_mod,Nat.mul_assoc,Nat.mul_mod,hv,Nat.mul_one,Nat.mod_mod,Nat.mod_eq_of_lt hk]
theorem bv_nat {k:Nat} (h:k≤255):bv (UInt8.ofNat k) = .int .u8 (k:Int):=by
 unfold bv
 rw [UInt8.toNat_ofNat',Nat.mod_eq_of_lt (by omega)]
section
variable {w0 w w':World} {F F':SP} {b d n t k a nx:Nat} {M:List Kv} {olds:Int→Option (List Kv)}
theorem kwrite (x:Int) (v:List UInt8) (m:Nat) (hm:v.length=m) (hv:v.length≤4) (cs:Array Value) (hcs:(v.map bv).toArray=cs) (hk:k≤10000) (ht:t+1≤1024) (hM:SmlM M) (hl:M.length≤600) (h:Sto w0 F b d 1024 t k 0 nx M olds w):
  Calls Tryz.prog 20 #[.pointer (some ⟨b,0,none⟩), .slice (some ⟨w.heap.size+1+1,0,none⟩) 1 1] (((w.alloc (.cells ((keyB x).map bv).toArray 5)).alloc (.cells cs 5)).alloc (.cells #[.slice (some ⟨w.heap.size,0,none⟩) 3 3, .slice (some ⟨w.heap.size+1,0,none⟩) m m, .bool false] 43)) fun e w'=>e = .returned (.int .i64 0)∧SmlM (putM ⟨keyB x,v,false⟩ M)∧Sto w0 F b d 1024 (t+1) (k+1) 0 nx (putM ⟨keyB x,v,false⟩ M) olds w':=by
 subst hm hcs
 have h8:=((h.al (.cells ((keyB x).map bv).toArray 5)).al (.cells (v.map bv).toArray 5)).al (.cells #[.slice (some ⟨w.heap.size,0,none⟩) 3 3, .slice (some ⟨w.heap.size+1,0,none⟩) v.length v.length, .bool false] 43)
 simp only [World.size_alloc] at h8
 generalize w.heap.size=g at*
 refine (swrite1 ⟨(some ⟨g,0,none⟩,3,keyB x),(some ⟨g+1,0,none⟩,v.length,v),false⟩ (g+1+1) (by omega) (by omega) h8 (fun W hW=>⟨ow_rd (l:=keyB x) hW.up2,ow_rd (l:=v) hW⟩) ⟨by show 1≤3∧3≤128;omega,by show v.length≤_;omega,fun h=>by cases h⟩ (sml_room hM (by show 3+v.length≤10;omega) hl)).mono ?_
 rintro e w' ⟨rfl,h6⟩
 exact ⟨rfl,sml_put hM (by show 3+v.length≤10;omega),h6.drop.drop⟩
theorem kget (x:Int) (q:Option (List UInt8)) (hq:getK (keyB x) M=q) (ht:t≤1024) (h:Sto w0 F b d n t k a nx M olds w):
  Calls Tryz.prog 32 #[.pointer (some ⟨b,0,none⟩), .slice (some ⟨w.heap.size,0,none⟩) 3 3] (w.alloc (.cells ((keyB x).map bv).toArray 5)) fun e w'=> ∃ A c,e = .returned (.tuple #[.slice A (q.getD []).length c, .bool q.isSome])∧Sto w0 (Row 5 1 (.slice A (q.getD []).length c) (q.getD []).length ((q.getD []).map bv)*F) b d n t k a nx M olds w':=by
 subst hq
 have h5:=h.al (.cells ((keyB x).map bv).toArray 5)
 refine (sget (some ⟨w.heap.size,0,none⟩,3,keyB x) (ow_rd (l:=keyB x) h5.sat) ht h5).mono ?_
 rintro e w' ⟨A,c,rfl,h6⟩
 exact ⟨A,c,rfl,(h6.map fun G hG=>hG.up3.right:Sto w0 _ b d n t k a nx M olds w')⟩
theorem Sto.set {g:Nat} {ty:TypeId} {cs:Array Value} (h:Sto w0 (Pt g ty cs*F) b d n t k a nx M olds w) (i:Nat) (u:Value):Sto w0 (Pt g ty (cs.setIfInBounds i u)*F) b d n t k a nx M olds (w.setCell ⟨g,i,none⟩ u):=h.map fun G hG=>(hG.up2.set i u).up2
theorem row_u8 {A:Option Addr} {c s:Nat} {W:World} {G:SP} (hs:s≤200) (h:Sat w0 (Row 5 1 (.slice A 1 c) 1 ([UInt8.ofNat s].map bv)*G) W): ∃ g,A=some ⟨g,0,none⟩∧W.cell? ⟨g,0,none⟩=some (.int .u8 (s:Int)):=by
 obtain ⟨g,e,hc⟩:=h.row_at (show 0<1 by omega)
 refine ⟨g,e,?_⟩
 have h1:=hc 0 (by simp)
 have h2:bv (UInt8.ofNat s) = .int .u8 (s:Int):=by
  unfold bv
  rw [UInt8.toNat_ofNat',Nat.mod_eq_of_lt (by omega)]
 rw [←h2]
 exact h1
end
end Go.Proofs.YtmbaiglpgaoogaaGreat
