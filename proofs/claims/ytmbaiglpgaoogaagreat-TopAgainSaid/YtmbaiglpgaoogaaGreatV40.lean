/- Joined, as they were built one by one: Sto22 Sto23 Sto24 Sto25 StKey StTold StCut. -/
import Derived.Test.YtmbaiglpgaoogaaGreatV04
import Derived.Test.YtmbaiglpgaoogaaGreatV08
import Derived.Test.YtmbaiglpgaoogaaGreatV18
import Derived.Test.YtmbaiglpgaoogaaGreatV20
import Derived.Test.YtmbaiglpgaoogaaGreatV26
import Derived.Test.YtmbaiglpgaoogaaGreatV28
import Derived.Test.YtmbaiglpgaoogaaGreatV31
import Derived.Test.YtmbaiglpgaoogaaGreatV34
import Derived.Test.YtmbaiglpgaoogaaGreatV37
import Derived.Test.YtmbaiglpgaoogaaGreatV38
import Derived.Test.YtmbaiglpgaoogaaGreatV39
set_option maxHeartbeats 16000000
namespace Go.Proofs.YtmbaiglpgaoogaaGreat
open Go.RowKit
set_option linter.unusedVariables false
set_option maxRecDepth 100000
theorem newN_st {slot turn n i:Nat} {lo:Bool} {a b:Nat × Nat} {IF LF:List (List UInt8)} {y:Xf} (hi:i % 2=0):newN ((stS slot turn n i lo a b IF LF y).files.map (·.num))=i+1:=by
 have h1:¬ i % 2=1:=by omega
 have h2:(i+1) % 2=1:=by omega
 have h3:¬ (i+2) % 2=1:=by omega
 cases y with
 | none=>
  show (if (i+1) % 2=1 then max (if i % 2=1 then max 0 i else 0) (i+1) else _)=_;rw[if_pos h2,if_neg h1];omega
 | some z=>
  show (if (i+2) % 2=1 then _ else (if (i+1) % 2=1 then max (if i % 2=1 then max 0 i else 0) (i+1) else _))=_;rw[if_neg h3,if_pos h2,if_neg h1];omega
theorem ownR_caps {w0 w:World}: ∀ {ks:Rows_} {F:SP},Sat w0 (OwnR ks*F) w-> ∀ x ∈ ks,x.2.2.length<=x.2.1/\x.2.1<=maxLen
 | [],_,_=>fun x hx=>by cases hx
 | y::ks,F,h=>fun x hx=>by
  have h1:Sat w0 (Row 5 1 (slOf y) y.2.2.length (y.2.2.map bv)*(OwnR ks*F)) w:=h.of (star_assoc _ _ _);rcases List.mem_cons.1 hx with rfl | hx
  .obtain⟨A,c,e,h2,h3⟩:=h1.row_sl;injection e with e1 e2 e3
   rw[e3];exact⟨h2,h3⟩
  .exact ownR_caps h1.right x hx
theorem mk_mapv (w:World):(Instr.makeMap 111 none).run Tryz.prog w = .ok (.map (some w.heap.size)) (w.alloc (.map #[] 0)):=by
 simp[Instr.makeMap]
def maxS (l:List Ent):Int:=l.foldl (fun m e=>max m e.seq) 0
theorem maxS_snoc (l:List Ent) (e:Ent):maxS (l++[e])=max (maxS l) e.seq:=by unfold maxS;rw[List.foldl_append];rfl
theorem maxS_le {k:Int}: ∀ (l:List Ent) (m:Int),m<=k->(∀ x ∈ l,x.seq<=k)->l.foldl (fun m e=>max m e.seq) m<=k
 | [],m,h,_=>h
 | x::l,m,h,h2=>maxS_le l _ (by have:=h2 x List.mem_cons_self;show max m x.seq<=k;omega) fun y hy=>h2 y (List.mem_cons_of_mem _ hy)
theorem maxS_ge: ∀ (l:List Ent) (m:Int),m<=l.foldl (fun m e=>max m e.seq) m/\ ∀ x ∈ l,x.seq<=l.foldl (fun m e=>max m e.seq) m
 | [],m=>⟨Int.le_refl _,fun x h=>by cases h⟩
 | y::l,m=>by
  obtain⟨h1,h2⟩:=maxS_ge l (max m y.seq);refine⟨by show m<=l.foldl _ (max m y.seq);omega,fun x hx=>?_⟩;rcases List.mem_cons.1 hx with rfl | hx
  .show x.seq<=l.foldl _ (max m x.seq);omega
  .exact h2 x hx
section
variable {w0 w:World} {F:SP}
def OpnR (w0:World) (F:SP) (d:Nat) (D:Dk) (t i:Nat) (E:List Ent) (bs:List (List Chn)) (yb:Bool) (S:Spc) (x:Ending) (w':World):Prop:=
 (∃ b s L,x = .returned (.tuple #[.pointer (some ⟨b,0,none⟩),.int .i64 0])/\MemIs L ((maxS E).toNat+bs.length) (mapD E bs) t/\
  ((yb=false/\Sat w0 (DbP b d s ⟨i+1,L,(maxS E).toNat+bs.length,fun _=>none,0,1⟩*(SpaceP s d S*(Disk d D*F))) w')\/(yb=true/\(S.switch [] [(i:Int)+2] D).2.2=0/\Sat w0 (DbP b d s ⟨i+1,L,(maxS E).toNat+bs.length,fun _=>none,0,1⟩*(SpaceP s d (S.switch [] [(i:Int)+2] D).1*(Disk d (S.switch [] [(i:Int)+2] D).2.1*F))) w')))\/
 (yb=true/\(S.switch [] [(i:Int)+2] D).2.2≠0/\x = .returned (.tuple #[.pointer none,.int .i64 (S.switch [] [(i:Int)+2] D).2.2])/\Sat w0 (Disk d (S.switch [] [(i:Int)+2] D).2.1*F) w')
theorem open_st (d n t k:Nat) (D:Dk) (slot turn:Nat) (lo:Bool) (fa fb:Nat × Nat) (LF:List (List UInt8)) (y:Xf) (sf:Nat->Nat) (lim i:Nat) (E:List Ent) (bs:List (List Chn))
  (ho:openX D=(some (stS slot turn n i lo fa fb (cutsB (packB E)) LF y),0)) (hd:Dsx n D slot turn lo fa fb LF y sf lim i E bs bs.length) (hcon:Con n t k E bs) (ht:t<=1024) (hk:k<=10000) (hlim:lim<=4*k+8) (hi:i<=2*k+2) (hc:Cnt D (20000*k+100)) (ha:D.armed<=9223372036854775807) (h:Sat w0 (Disk d D*F) w):
  Calls Tryz.prog 19 #[.pointer (some ⟨d,0,none⟩)] w (OpnR w0 F d D t i E bs y.isSome (stS slot turn n i lo fa fb (cutsB (packB E)) LF y)):=by
 have hmost:=hd.most;have hbig:=hd.big;have hnums: ∀ f ∈ (stS slot turn n i lo fa fb (cutsB (packB E)) LF y).files,f.num<=2147483647:=fun f hf=>by
  cases y with
  | none=>
   rcases List.mem_cons.1 hf with rfl | hf
   .show i<=_;omega
   .rw[List.mem_singleton.1 hf];show i+1<=_;omega
  | some z=>
   rcases List.mem_cons.1 hf with rfl | hf
   .show i<=_;omega
   rcases List.mem_cons.1 hf with rfl | hf
   .show i+1<=_;omega
   .rw[List.mem_singleton.1 hf];show i+2<=_;omega
 have hfew:(stS slot turn n i lo fa fb (cutsB (packB E)) LF y).files.length<=1000:=by have:=st_few slot turn n i lo fa fb (cutsB (packB E)) LF y;omega
 have HOp:=ah (open_some h (by rw[hd.len];omega) (by rw[hd.len];omega) ho);obtain⟨S,hS⟩: ∃ S,S=stS slot turn n i lo fa fb (cutsB (packB E)) LF y:=⟨_,rfl⟩;have HSe:=ah hS;obtain⟨lg,hlg⟩: ∃ lg,lg=i+1:=⟨_,rfl⟩;have HLg:=ah hlg;have hnew:newN (S.files.map (·.num))=lg:=by rw[hS,hlg];exact newN_st hd.num.2
 have hgood:Good D S sf lim:=by rw[hS];exact hd.good
 rw[<-hS] at HOp hnums hfew;have HNe:Hid (∀ s W (G:SP),Sat w0 (SpaceP s d S*(Disk d D*G)) W->Calls Tryz.prog 57 #[.pointer (some ⟨s,0,none⟩)] W fun e w'=>e = .returned (.int .i64 (lg:Int))/\Sat w0 (SpaceP s d S*(Disk d D*G)) w'):=fun s W G hW=>by
  have h9:=newest_sp (files_sp hgood hW) hnums hfew;rw[hnew] at h9;exact h9
 have hlg1:((lg:Int)==0)=false:=by rw[beq_eq_false_iff_ne];omega
 have hlg2:lg<=1000000:=by omega
 have hw1:IntKind.i64.wrap ((lg:Int) - 1)=(lg:Int) - 1:=by rw[IntKind.wrap_i64];omega
 have himgf:S.find ((lg:Int) - 1)=some ⟨i,posA n lo,imgN n,fa.1,fa.2,cutsB (packB E)⟩:=by
  rw[hS,hlg,show ((i+1:Nat):Int) - 1=(i:Nat) by omega];exact st_image
 have hlogf:S.find (lg:Int)=some ⟨i+1,posA n lo+imgN n,logN n,fb.1,fb.2,LF⟩:=by
  rw[hS,hlg,show ((i+1:Nat):Int)=(i:Int)+1 by omega];exact st_log
 have HRd:Hid (∀ s W (G:SP),Sat w0 (SpaceP s d S*(Disk d D*G)) W->Calls Tryz.prog 64 #[.pointer (some ⟨s,0,none⟩),.int .i64 (lg:Int)] W fun e w'=> ∃ A c rs,e = .returned (.tuple #[.slice A rs.length c,.int .i64 0])/\txt rs=bs.map laiB/\Sat w0 (Row 41 1 (.slice A rs.length c) rs.length (rs.map slOf)*(OwnR rs*(SpaceP s d S*(Disk d D*G)))) w'):=fun s W G hW=>by
  refine(read_sp hgood hW hlogf).mono ?_;rintro e w' ⟨u,rs,rfl,h1,h3⟩;obtain⟨A,c,rfl,_⟩:=h3.row_sl;exact⟨A,c,rs,rfl,h1.trans hd.tel.whole,h3⟩
 have HFi:Hid (∀ s W (G:SP),Sat w0 (SpaceP s d S*(Disk d D*G)) W->Calls Tryz.prog 67 #[.pointer (some ⟨s,0,none⟩)] W fun e w'=> ∃ A c,e = .returned (.slice A S.files.length c)/\Sat w0 (Row 128 3 (.slice A S.files.length c) S.files.length ((S.files.map lieOf).flatMap lieV)*(SpaceP s d S*(Disk d D*G))) w'):=fun s W G hW=>by
  refine(files_sp hgood hW).mono ?_;rintro e w' ⟨u,rfl,h3⟩;obtain⟨A,c,rfl,_⟩:=h3.row_sl;exact⟨A,c,rfl,h3⟩
 have HSwB:Hid (∀ s g W (G:SP),Sat w0 (Pt g 3 #[.int .i64 ((i:Int)+2)]*(SpaceP s d S*(Disk d D*G))) W->Calls Tryz.prog 55 #[.pointer (some ⟨s,0,none⟩),.slice none 0 0,.slice (some ⟨g,0,none⟩) 1 1] W (SwX w0 (Pt g 3 #[.int .i64 ((i:Int)+2)]*G) s d (S.switch [] [(i:Int)+2] D))):=fun s g W G hW=>
  switch_sp none 0 [] (some ⟨g,0,none⟩) 1 [(i:Int)+2] hgood (by omega) (hW.of (by ac_rfl)) (fun _ _ hne=>absurd rfl hne) (fun W' hW'=>lit_part hW' (fun j hj=>by
   match j,hj with
   | 0,_=>rfl)) (by simp) (by simp) (by simp) (by simp) (fun q hq=>by
   rw[List.mem_singleton] at hq;omega) (by have:=hc.writes;omega) (by have:=hc.pend;omega) ha
 have HNm:Hid (∀ j (hj:j<(S.files.map lieOf).length),(j<2/\((S.files.map lieOf)[j].1:Int)<=lg)\/(j=2/\((S.files.map lieOf)[j].1:Int)=(i:Int)+2/\y.isSome=true)):=fun j hj=>by
  subst hS;subst hlg
  match j,hj with
  | 0,_=>exact .inl ⟨by omega,by show ((i:Nat):Int)<=((i+1:Nat):Int);omega⟩
  | 1,_=>exact .inl ⟨by omega,by show ((i+1:Nat):Int)<=((i+1:Nat):Int);omega⟩
  | 2,hj=>
   cases y with
   | none=>exact absurd hj (by simp[stS,xfs])
   | some z=>exact .inr ⟨rfl,by show ((i+2:Nat):Int)=(i:Int)+2;omega,rfl⟩
  | j+3,hj=>
   cases y with
   | none=>exact absurd hj (by simp[stS,xfs])
   | some z=>exact absurd hj (by simp[stS,xfs])
 have HNl:Hid ((y.isSome=false/\S.files.length=2)\/(y.isSome=true/\S.files.length=3)):=by
  subst hS
  cases y with
  | none=>exact .inl ⟨rfl,rfl⟩
  | some z=>exact .inr ⟨rfl,rfl⟩
 have HFr:Hid (∀ s W (G:SP),Sat w0 (SpaceP s d S*(Disk d D*G)) W->Calls Tryz.prog 59 #[.pointer (some ⟨s,0,none⟩),.int .i64 ((lg:Int) - 1)] W fun e w'=> ∃ A c ts,e = .returned (.tuple #[.slice A ts.length c,.int .i64 0])/\txt ts=cutsB (packB E)/\Sat w0 (Row 41 1 (.slice A ts.length c) ts.length (ts.map slOf)*(RoL ts*(SpaceP s d S*(Disk d D*G)))) w'):=fun s W G hW=>by
  refine(frames_spC hgood hW himgf).mono ?_;rintro e w' ⟨u,ts,rfl,h1,h2,h3⟩;obtain⟨A,c,rfl,_⟩:=h3.row_sl;exact⟨A,c,ts,rfl,h1,h3⟩
 have hpl:(packB E).length<=20000000:=by
  have h1:=packB_le E fun e he=>⟨(hcon.img.each e he).1.key.2,(hcon.img.each e he).1.val⟩
  have h2:=sumE_each E fun e he=>(hcon.img.each e he).1
  rw[sizM_ents] at h1;have h3:=hcon.few;omega
 have HJo:Hid (∀ A c (ts:Rows_) W (G:SP),txt ts=cutsB (packB E)->Sat w0 (Row 41 1 (.slice A ts.length c) ts.length (ts.map slOf)*(RoL ts*G)) W->Calls Tryz.prog 61 #[.slice A ts.length c] W fun e w'=> ∃ B bc,e = .returned (.slice B (packB E).length bc)/\(packB E).length<=bc/\bc<=maxLen/\Sat w0 (Row 5 1 (.slice B (packB E).length bc) (packB E).length ((packB E).map bv)*(Row 41 1 (.slice A ts.length c) ts.length (ts.map slOf)*(RoL ts*G))) w'):=fun A c ts W G ht hW=>by
  have hfl:(txt ts).flatten=packB E:=by rw[ht,cuts_flat]
  have htl:ts.length<=20000000:=by
   have h1:(txt ts).length=ts.length:=by unfold txt;rw[List.length_map]
   rw[<-h1,ht,cuts_len];omega
  have h9:=join_any A c ts W ⟨hW.row_rdvX,fun x hx=>hW.up2.rol hx⟩ (by rw[hfl];omega) (by omega);rw[hfl] at h9;refine h9.mono ?_;rintro e w' ⟨v,rfl,h1,h2⟩;have h3:=hW.gotRow h2 h1;obtain⟨B,bc,rfl,h4,h5⟩:=h3.row_sl;exact⟨B,bc,rfl,h4,h5,h3⟩
 have HUn:Hid (∀ B bc W (G:SP),(packB E).length<=bc->bc<=maxLen->Sat w0 (Row 5 1 (.slice B (packB E).length bc) (packB E).length ((packB E).map bv)*G) W->Calls Tryz.prog 60 #[.slice B (packB E).length bc] W fun e w'=> ∃ es A c,e = .returned (.slice A es.length c)/\es.map En.ent=E/\Sat w0 (Row 120 4 (.slice A es.length c) es.length (es.flatMap enV)*(OwnE es*G)) w'):=fun B bc W G h1 h2 hW=>by
  refine(unpacked_any B bc E W hcon.img (by have:=hcon.few;omega) hW.row_rdK h1 h2).mono ?_;rintro e w' ⟨es,A,c,rfl,h3,h4⟩;have h5:=hW.join h4 (owned_star (owned_row _ _ _ _ _) (owned_ownES _));exact⟨es,A,c,rfl,h3,(h5.of (show _=Row 5 1 (.slice B (packB E).length bc) (packB E).length ((packB E).map bv)*(Row 120 4 (.slice A es.length c) es.length (es.flatMap enV)*(OwnE es*G)) by ac_rfl)).right⟩
 have HSrt:Hid (E.Pairwise LTE):=hcon.img.lte;have HEa:Hid (∀ x ∈ E,(x.key.length<=200/\x.value.length<=20000)/\0<=x.seq/\x.seq<=1000000000):=fun x hx=>by
  have h1:=(hcon.img.each x hx).1.key;have h2:=(hcon.img.each x hx).1.val;have h3:=(hcon.img.each x hx).1.seq;omega
 have hel0:E.length<=1024:=by have:=hcon.few;omega
 have HEl0:=ah hel0;obtain⟨pl,hplE⟩: ∃ pl,pl=(packB E).length:=⟨_,rfl⟩;rw[<-hplE] at HJo HUn;have HPl:Hid (pl<=20000000):=by unfold Hid;omega
 have HD:=ah hd;have HCon:=ah hcon;have HT:=ah ht;have HK:=ah hk;have HLim:=ah hlim;have HI:=ah hi;have HC:=ah hc;have HA:=ah ha;have HGood:=ah hgood;have HFew:=ah hfew;have HNums:=ah hnums;clear hd hcon ht hk hlim hi hc ha h ho hS hlg hnew hgood hnums hfew hmost hbig himgf hlogf hpl hplE hel0;go_enter Tryz.func19, Tryz.ntmps19;go_upto_region 7 with (first
  | (go_at_call 53;(with_reducible refine HOp.o.mono ?_);rintro e w1 ⟨s,rfl,hs1⟩;have HS1:=ah hs1;clear hs1)
  | (go_at_call 57;(with_reducible refine(HNe.o _ _ _ HS1.o).mono ?_);rintro e w2 ⟨rfl,hs2⟩;have HS2:=ah hs2;clear hs2)
  | (go_at_call 57;(with_reducible refine(HNe.o _ _ _ HS2.o).mono ?_);rintro e w3 ⟨rfl,hs3⟩;have HS3:=ah hs3;clear hs3)
  | (go_at_call 58;(with_reducible refine(mnew_any w0 _ _ HS3.o).mono ?_);rintro e w4 ⟨tb,hr,rfl,hs4⟩;have HS4:=ah hs4;have hmk:=mk_mapv w4;clear hs4))
 have hs5:=(HS4.o.map_new (P:= Tryz.prog) (k:= 3)).allocAt (b:=w4.heap.size+1) 113 (dbC d s lg tb 0 w4.heap.size 1 false) (by simp);have hs5':Sat w0 (Pt (w4.heap.size+1) 113 (dbC d s lg tb 0 w4.heap.size 1 false)*(MapP Tryz.prog 3 w4.heap.size 0 (fun _=>none)*(SkipT tb hr []*(SpaceP s d S*(Disk d D*F))))) ((w4.alloc (.map #[] 0)).alloc (.cells (dbC d s lg tb 0 w4.heap.size 1 false) 113)):=hs5;obtain⟨W5,hW5⟩: ∃ W5,W5=(w4.alloc (.map #[] 0)).alloc (.cells (dbC d s lg tb 0 w4.heap.size 1 false) 113):=⟨_,rfl⟩;rw[<-hW5] at hs5';unfold dbC at hW5;rw[<-hW5];obtain⟨mb,hmb⟩: ∃ mb,mb=w4.heap.size:=⟨_,rfl⟩;obtain⟨b,hb⟩: ∃ b,b=w4.heap.size+1:=⟨_,rfl⟩;rw[<-hb, <-hmb] at hs5';rw[<-hb, <-hmb];have HS5:Hid (Sat w0 (SpaceP s d S*(Disk d D*(Pt b 113 (dbC d s lg tb 0 mb 1 false)*(MapP Tryz.prog 3 mb 0 (fun _=>none)*(SkipT tb hr []*F))))) W5):=hs5'.of (by ac_rfl);clear hs5 hs5' hW5 hb hmb hmk HS1 HS2 HS3 HS4 HOp HNe;have c2:W5.cell? ⟨b,2,none⟩=some (.int .i64 (lg:Int)):=HS5.o.up3.cell 2;go_upto_region 8 with (go_at_call 59;(with_reducible refine(HFr.o _ _ _ HS5.o).mono ?_);rintro e w6 ⟨FA,fc,ts,rfl,ht,hs6⟩;have HTs:=ah ht;have HS6:=ah hs6;clear hs6 ht)
 go_wp2_with (first
  | (go_at_call 61;(with_reducible refine(HJo.o _ _ _ _ _ HTs.o HS6.o).mono ?_);rintro e w7 ⟨JA,jc,rfl,hj1,hj2,hs7⟩;have HJ1:=ah hj1;have HJ2:=ah hj2;have HS7:=ah hs7;clear hj1 hj2 hs7)
  | (go_at_call 60;(with_reducible refine(HUn.o _ _ _ _ HJ1.o HJ2.o HS7.o).mono ?_);rintro e w8 ⟨es,A,c,rfl,hes,hs8⟩;have HES:=ah hes;have HS8:=ah hs8;clear hes hs8))
 have HEl:Hid (es.length=E.length):=by unfold Hid;rw[<-HES.o,List.length_map]
 have hel:es.length<=1024:=by rw[HEl.o];exact HEl0.o
 have HS9:Hid (Sat w0 (SkipT tb hr []*(Pt b 113 (dbC d s lg tb 0 mb 1 false)*(Row 120 4 (.slice A es.length c) es.length (es.flatMap enV)*(OwnE es*(MapP Tryz.prog 3 mb 0 (fun _=>none)*(SpaceP s d S*(Disk d D*F))))))) w8):=(HS8.o.of (show _=Row 41 1 (.slice FA ts.length fc) ts.length (ts.map slOf)*(RoL ts*(SkipT tb hr []*(Pt b 113 (dbC d s lg tb 0 mb 1 false)*(Row 120 4 (.slice A es.length c) es.length (es.flatMap enV)*(OwnE es*(MapP Tryz.prog 3 mb 0 (fun _=>none)*(SpaceP s d S*(Disk d D*F)))))))) by ac_rfl)).right.right;clear HS8 HS7 HS6 HS5 HJo HUn HFr c2;go_loopw [57] (fun iv wr=> ∃ (j:Nat) (ms:List Nd) (q:Int),j<=es.length/\iv = .int .i64 (j:Int)/\Hid (TabG ms j/\entsN ms=E.take j/\q=maxS (E.take j)/\Sat w0 (SkipT tb hr ms*(Pt b 113 (dbC d s lg tb q mb 1 false)*(Row 120 4 (.slice A es.length c) es.length (es.flatMap enV)*(OwnE es*(MapP Tryz.prog 3 mb 0 (fun _=>none)*(SpaceP s d S*(Disk d D*F))))))) wr)) (fun iv _=>es.length - (intOf iv).toNat)
 case atStart=>exact⟨0,[],0,by omega,rfl,tabG_nil 0,rfl,rfl,HS9.o⟩
 case round=>
  obtain⟨j,ms,q,hj,rfl,HD0⟩:=hrel;by_cases hlt:j<es.length
  .obtain⟨lb,lo2,hA,hq⟩:=ents_at HD0.o.2.2.2.up3.row_rdK (by omega);subst hA;obtain⟨y0,y1,y2,y3⟩:=hq j hlt;have HRi:=ah (ownE_r HD0.o.2.2.2.up4 _ (List.getElem_mem hlt));have hmE:es[j].ent ∈ E:=by rw[<-HES.o];exact List.mem_map_of_mem (List.getElem_mem hlt)
   have HLi:=ah (HEa.o _ hmE);have HTk:Hid (E.take (j+1)=E.take j++[es[j].ent]):=by
    unfold Hid;rw[<-HES.o,List.take_add_one,List.getElem?_eq_getElem (by rw[List.length_map];exact hlt),List.getElem_map];rfl
   have HNew:Hid (∀ x ∈ entsN ms,LTE x es[j].ent):=fun x hx=>by
    rw[HD0.o.2.1] at hx;have h2:=HSrt.o;rw[<-List.take_append_drop (j+1) E,HTk.o] at h2;have h3:=(List.pairwise_append.1 h2).1;exact(List.pairwise_append.1 h3).2.2 x hx _ (List.mem_singleton_self _)
   have hii:(j:Int)<es.length:=by omega
   clear hq hmE;generalize es[j]=x at*
   obtain⟨⟨kA,kc,kl⟩,⟨vA,vc,vl⟩,eq,dd⟩:=x;replace y0:_=some (Value.slice kA kl.length kc):=y0;replace y1:_=some (Value.slice vA vl.length vc):=y1;replace y2:_=some (Value.int .i64 eq):=y2;replace y3:_=some (Value.bool dd):=y3;replace HLi:Hid ((kl.length<=200/\vl.length<=20000)/\0<=eq/\eq<=1000000000):=HLi;go_upto_region 11 with fail;have hs7:=HD0.o.2.2.2.allocPt 120 #[.slice kA kl.length kc,.slice vA vl.length vc,.int .i64 eq,.bool dd];obtain⟨W7,hW7⟩: ∃ W7,W7=wr.alloc (.cells #[.slice kA kl.length kc,.slice vA vl.length vc,.int .i64 eq,.bool dd] 120):=⟨_,rfl⟩;rw[<-hW7] at hs7;rw[<-hW7];obtain⟨bx,hbx⟩: ∃ bx,bx=wr.heap.size:=⟨_,rfl⟩;rw[<-hbx] at hs7;rw[<-hbx];have HR7:Hid (Rd W7 kA kl/\Rd W7 vA vl):=by rw[hW7];exact⟨RdV.alloc HRi.o.1 _,RdV.alloc HRi.o.2 _⟩
   clear hW7 hbx y0 y1 y2 y3;have c3:=hs7.up3.cell 3;have x0:=hs7.cell 0;have x1:=hs7.cell 1;have x2:=hs7.cell 2;have x3:=hs7.cell 3;have HSr:=ah hs7;clear hs7;have HPu:Hid (∀ W H,Chg No W7 W->Calls Tryz.prog 62 #[.pointer (some ⟨tb,0,none⟩),.agg #[.slice kA kl.length kc,.slice vA vl.length vc,.int .i64 eq,.bool dd],.int .i64 H] W fun x w'=> ∃ ns',x = .returned (.int .i64 0)/\TabG ns' (j+1)/\entsN ns'=E.take (j+1)/\Sat w0 (Pt bx 120 #[.slice kA kl.length kc,.slice vA vl.length vc,.int .i64 eq,.bool dd]*(SkipT tb hr ns'*(Pt b 113 (dbC d s lg tb q mb 1 false)*(Row 120 4 (.slice (some ⟨lb,lo2,none⟩) es.length c) es.length (es.flatMap enV)*(OwnE es*(MapP Tryz.prog 3 mb 0 (fun _=>none)*(SpaceP s d S*(Disk d D*F)))))))) w'):=fun W H hW=>by
    refine(putN_any tb hr ms j H ⟨(kA,kc,kl),(vA,vc,vl),eq,dd⟩ w0 W _ (HSr.o.new hW).up2 HD0.o.1 (by omega) ⟨HR7.o.1.new hW,HR7.o.2.new hW⟩ HLi.o.1.1 HLi.o.1.2 (by show eq<=topSeq;unfold topSeq;have:=HLi.o;omega) (fun x hx hs=>same1_not hs (HNew.o x hx))).mono ?_;rintro x w' ⟨ns',rfl,k1,k2,k3⟩;exact⟨ns',rfl,k1,by rw[k2,insE_last HNew.o,HTk.o,HD0.o.2.1],k3.up2⟩
   have HH:=ah (fun W=>height_any eq HLi.o.2 W);have HDrew:Hid (Chg No W7 W7.drew):=(Chg.refl No W7).drew;refine wp_region_held_drew (S:=fun w'=>w'.cell? ⟨b,3,none⟩=some (.pointer (some ⟨tb,0,none⟩))/\w'.cell? ⟨bx,0,none⟩=some (.slice kA kl.length kc)/\w'.cell? ⟨bx,1,none⟩=some (.slice vA vl.length vc)/\w'.cell? ⟨bx,2,none⟩=some (.int .i64 eq)/\w'.cell? ⟨bx,3,none⟩=some (.bool dd)) (by kernel_rfl) ⟨(by exact c3),x0,x1,x2,x3⟩ ?_;intro hS0;refine rtk 0 ?_;refine rtk 1 ?_;refine rtk 2 ?_;refine rtk 3 ?_;refine rtk 4 ?_;refine rtk 5 ?_;refine rtk 6 ?_;refine rck 7 fun K hK=>?_
   go_simp;go_at_call 63;(with_reducible refine(HH.o _).mono ?_);rintro e wx ⟨⟨hh,rfl,hh1,hh2⟩,rfl⟩
   refine hK.out _ _ ⟨(by exact c3),x0,x1,x2,x3⟩ (fun hS0=>?_);clear hK K;refine rck 8 fun K hK=>?_
   go_simp;go_at_call 62;(with_reducible refine(HPu.o _ hh HDrew.o).mono ?_);rintro e w9 ⟨ns2,rfl,n1,n2,hs8⟩;have HN1:=ah n1;have HN2:=ah n2;have HS10:=ah hs8;clear n1 n2 hs8
   refine hK.out _ _ ⟨HS10.o.up3.cell 3,HS10.o.cell 0,HS10.o.cell 1,HS10.o.cell 2,HS10.o.cell 3⟩ (fun hS0=>?_);clear hK K;refine wpAnyH_done (by kernel_rfl) ?_ _;have x2':w9.cell? ⟨bx,2,none⟩=some (.int .i64 eq):=HS10.o.cell 2;have c4':w9.cell? ⟨b,4,none⟩=some (.int .i64 q):=HS10.o.up3.cell 4;have f4':=HS10.o.up3.frozen 4;have X2:=ah x2';have C4:=ah c4';clear c3 x0 x1 x2 x3;go_upto_region 12 with fail;refine rgnz_start (z:=10) (S:=fun w'=>w'.cell? ⟨b,4,none⟩=some (.int .i64 q)/\w'.cell? ⟨bx,2,none⟩=some (.int .i64 eq)) (by kernel_rfl) ⟨(by exact C4.o),(by exact X2.o)⟩ ?_;intro hS0;refine rtkz 0 ?_;refine rtkz 1 ?_;refine rtkz 2 ?_;refine rtkz 3 ?_;refine rtkz 4 ?_;refine rtkz 5 ?_;refine rtkz 6 ?_;refine rtkz 7 ?_;refine rckz 8 fun K hK=>?_
   go_simp;refine hK.out _ _ ⟨(by exact C4.o),(by exact X2.o)⟩ (fun hS0=>?_);clear hK K;refine rtkz 9 ?_;refine rgnz_last rfl (by kernel_rfl) (by kernel_rfl) (fun K hK=>?_);go_simp;refine hK.out _ _ ?_;clear hK K;have hs11:=((HS10.o.up3).set 4 (.int .i64 (max q eq))).new (Chg.refl No _).drew;have HS11:=ah hs11;have HMx:Hid (max q eq=maxS (E.take (j+1))):=by unfold Hid;rw[HTk.o,maxS_snoc, <-HD0.o.2.2.1];rfl
   clear hs11 f4' c4' x2';go_wp2_with fail;go_roundw
   .exact⟨j+1,ns2,max q eq,by omega,by push_cast;rfl,HN1.o,HN2.o,HMx.o,(HS11.o.of (show _=Pt bx 120 #[.slice kA kl.length kc,.slice vA vl.length vc,.int .i64 eq,.bool dd]*(SkipT tb hr ns2*(Pt b 113 (dbC d s lg tb (max q eq) mb 1 false)*(Row 120 4 (.slice (some ⟨lb,lo2,none⟩) es.length c) es.length (es.flatMap enV)*(OwnE es*(MapP Tryz.prog 3 mb 0 (fun _=>none)*(SpaceP s d S*(Disk d D*F))))))) by show Pt b 113 (dbC d s lg tb (max q eq) mb 1 false)*_=_;ac_rfl)).right⟩
   .simp[intOf];omega
  .have hje:j=es.length:=by omega
   subst hje;have HQ0:Hid (TabG ms E.length/\entsN ms=E/\q=maxS E):=by
    have h1:=HD0.o;rw[List.take_of_length_le (by have:=HEl.o;omega)] at h1;exact⟨by rw[<-HEl.o];exact h1.1,h1.2.1,h1.2.2.1⟩
   have HS12:=ah HD0.o.2.2.2;have hq0:(((maxS E).toNat:Nat):Int)=maxS E:=by have:=(maxS_ge E 0).1;unfold maxS;omega
   have HMe:Hid (MemIs E (maxS E).toNat (E.map pairE) E.length):=ImgOk.mem HCon.o.img (fun x hx=>by rw[hq0];exact(maxS_ge E 0).2 x hx);have HS13:Hid (Sat w0 (DbP b d s ⟨lg,E,(maxS E).toNat,fun _=>none,0,1⟩*(SpaceP s d S*(Disk d D*F))) wr):=by
    refine Sat.dbI (v:=⟨lg,E,(maxS E).toNat,fun _=>none,0,1⟩) (tb:=tb) (hr:=hr) (mb:=mb) (ns:=ms) HQ0.o.1 HQ0.o.2.1 ?_;rw[db_d];dsimp only;rw[hq0, <-HQ0.o.2.2];have h1:=HS12.o.of (show _=Row 120 4 (.slice A es.length c) es.length (es.flatMap enV)*(OwnE es*(Pt b 113 (dbC d s lg tb q mb 1 false)*(SkipT tb hr ms*(MapP Tryz.prog 3 mb 0 (fun _=>none)*(SpaceP s d S*(Disk d D*F)))))) by ac_rfl);exact h1.right.right
   have c2:wr.cell? ⟨b,2,none⟩=some (.int .i64 (lg:Int)):=HS12.o.up2.cell 2;have HS14:Hid (Sat w0 (SpaceP s d S*(Disk d D*(DbP b d s ⟨lg,E,(maxS E).toNat,fun _=>none,0,1⟩*F))) wr):=HS13.o.of (by ac_rfl);clear HS12 HS13 HD0 HQ0 hlt;go_wp2_with (go_at_call 64;(with_reducible refine(HRd.o _ _ _ HS14.o).mono ?_);rintro e w10 ⟨RA,rc,rs,rfl,hrs,hs15⟩;have HRs:=ah hrs;have HS15:=ah hs15;clear hrs hs15);have HRl:Hid (rs.length=bs.length):=by have:=congrArg List.length HRs.o;unfold txt at this;rw[List.length_map,List.length_map] at this;exact this
   have hbl:rs.length<=10000:=by rw[HRl.o];have:=HCon.o.bl;have:=HK.o;omega
   have HS16:Hid (Sat w0 (DbP b d s ⟨lg,E,(maxS E).toNat,fun _=>none,0,1⟩*(Row 41 1 (.slice RA rs.length rc) rs.length (rs.map slOf)*(OwnR rs*(SpaceP s d S*(Disk d D*F))))) w10):=HS15.o.of (by ac_rfl);clear HS14 HS15 c2;go_loopw [92] (fun iv wr=> ∃ (j:Nat),j<=rs.length/\iv = .int .i64 (j:Int)/\Hid (∃ L,MemIs L ((maxS E).toNat+j) (mapD E (bs.take j)) (E.length+((bs.take j).map List.length).sum)/\Sat w0 (DbP b d s ⟨lg,L,(maxS E).toNat+j,fun _=>none,0,1⟩*(Row 41 1 (.slice RA rs.length rc) rs.length (rs.map slOf)*(OwnR rs*(SpaceP s d S*(Disk d D*F))))) wr)) (fun iv _=>rs.length - (intOf iv).toNat)
   case atStart=>exact⟨0,by omega,rfl,E,HMe.o,HS16.o⟩
   case round=>
    obtain⟨j,hj,rfl,HD1⟩:=hrel;obtain⟨L,hmL,hsL⟩:=HD1.o;by_cases hlt:j<rs.length
    .have hrow:=hsL.up2.row_rdvX;obtain⟨lb,lo2,hA,hcell⟩:=hrow (by intro h0;have:=congrArg List.length h0;rw[List.length_map,List.length_nil] at this;omega);subst hA;have y0:=hcell j (by rw[List.length_map];exact hlt);rw[List.getElem_map] at y0;have hjb:j<bs.length:=by rw[<-HRl.o];exact hlt
     have hx2:rs[j].2.2=laiB bs[j]:=by
      have h1:(txt rs)[j]'(by unfold txt;rw[List.length_map];exact hlt)=rs[j].2.2:=by unfold txt;rw[List.getElem_map]
      have h2:(bs.map laiB)[j]'(by rw[List.length_map];exact hjb)=laiB bs[j]:=by rw[List.getElem_map]
      rw[<-h1, <-h2];congr 1<;>exact HRs.o
     have hrd:=fun W (G:SP) (hW:Sat w0 (OwnR rs*G) W)=>OwnR_rd hW (List.getElem_mem hlt)
     have hcp:=ownR_caps hsL.up3 _ (List.getElem_mem hlt);have hbok:BatOk bs[j]:=HCon.o.bats _ (List.getElem_mem hjb);have htk:bs.take (j+1)=bs.take j++[bs[j]]:=by rw[List.take_add_one,List.getElem?_eq_getElem hjb];rfl
     have hsum:((bs.take (j+1)).map List.length).sum<=(bs.map List.length).sum:=by
      have h1:=congrArg (fun l=>(l.map List.length).sum) (List.take_append_drop (j+1) bs);simp only[List.map_append,List.sum_append] at h1;omega
     have hsum2:((bs.take (j+1)).map List.length).sum=((bs.take j).map List.length).sum+bs[j].length:=by rw[htk,List.map_append,List.sum_append];simp
     have hfew2:=HCon.o.few;have hmap:mapD E (bs.take (j+1))=putsM bs[j] (mapD E (bs.take j)):=by rw[htk,mapD_snoc]
     generalize bs[j]=cs at*
     generalize rs[j]=x at*
     obtain⟨xa,xc,xl⟩:=x;dsimp only at hx2 hrd hcp;replace y0:_=some (Value.slice xa xl.length xc):=y0;subst hx2;have hlb:=laiB_le hbok;have hkk:=HK.o;have htt:=HT.o;have hqk:(maxS E).toNat+bs.length<=10000:=by
      have h1:=maxS_le E 0 (k:=((k - bs.length:Nat):Int)) (by omega) (fun x hx=>by have:=HCon.o.seqs x hx;omega);have h2:=HCon.o.bl;have h3:maxS E<=((k - bs.length:Nat):Int):=h1;omega
     have HUl:Hid (∀ W,Chg No wr W->Calls Tryz.prog 66 #[.slice xa (laiB cs).length xc] W fun e w'=> ∃ B bd ps,e = .returned (.slice B ps.length bd)/\ps.map Pu.chn=cs/\(∀ W,Rd W xa (laiB cs)->PusR W ps)/\Sat w0 (Row 43 3 (.slice B ps.length bd) ps.length (ps.flatMap puC)*(DbP b d s ⟨lg,L,(maxS E).toNat+j,fun _=>none,0,1⟩*(Row 41 1 (.slice (some ⟨lb,lo2,none⟩) rs.length rc) rs.length (rs.map slOf)*(OwnR rs*(SpaceP s d S*(Disk d D*F)))))) w'):=fun W hk=>by
      refine(unlaid_any xa xc cs W ((hrd _ _ hsL.up3).new hk) hcp.1 hcp.2 (fun p hp=>(hbok.each p hp).chn) (by omega)).mono ?_;rintro e w' ⟨B,bd,ps,h1,h2,rfl,h3⟩;have hpl:ps.length=cs.length:=by rw[<-h1,List.length_map]
      rw[<-hpl] at h3;refine⟨B,bd,ps,by rw[hpl],h1,h2,?_⟩;exact((hsL.new hk).join h3 (owned_star (owned_row _ _ _ _ _) owned_emp)).of (by rw[star_comm _ Emp,emp_star])
     have hJn:j+1<=bs.length:=by rw[<-HRl.o];exact hlt
     have HDn:Hid (∀ B bd (ps:List Pu) W,ps.map Pu.chn=cs->(∀ W,Rd W xa (laiB cs)->PusR W ps)->Sat w0 (Row 43 3 (.slice B ps.length bd) ps.length (ps.flatMap puC)*(DbP b d s ⟨lg,L,(maxS E).toNat+j,fun _=>none,0,1⟩*(Row 41 1 (.slice (some ⟨lb,lo2,none⟩) rs.length rc) rs.length (rs.map slOf)*(OwnR rs*(SpaceP s d S*(Disk d D*F)))))) W->Calls Tryz.prog 65 #[.pointer (some ⟨b,0,none⟩),.slice B ps.length bd] W fun e w'=>e = .returned (.tuple #[])/\Hid (∃ L',MemIs L' ((maxS E).toNat+(j+1)) (mapD E (bs.take (j+1))) (E.length+((bs.take (j+1)).map List.length).sum)/\Sat w0 (DbP b d s ⟨lg,L',(maxS E).toNat+(j+1),fun _=>none,0,1⟩*(Row 41 1 (.slice (some ⟨lb,lo2,none⟩) rs.length rc) rs.length (rs.map slOf)*(OwnR rs*(SpaceP s d S*(Disk d D*F))))) w')):=fun B bd ps W hps hpr hW=>by
      have hpl:ps.length=cs.length:=by rw[<-hps,List.length_map]
      have hok: ∀ p ∈ ps,ChgOk p.chn:=fun p hp=>hbok.each _ (by rw[<-hps];exact List.mem_map_of_mem hp)
      have hLl:=hmL.len;refine(ddone_any b d s ⟨lg,L,(maxS E).toNat+j,fun _=>none,0,1⟩ B bd ps (hW.up2) (fun W' hW'=>⟨hW'.row_rdK,hpr W' (hrd _ _ hW'.up3)⟩) hok (by omega) (by show L.length<=80000;omega) (fun x hx=>⟨((hmL.each x hx).seq).1,hmL.top x hx⟩) (by show (maxS E).toNat+j+1<=_;omega) (by show 0<=_;omega)).mono ?_;rintro e w' ⟨rfl,qs,h1,h2⟩;refine⟨rfl,tidyE qs (doneE ((maxS E).toNat+j) cs L),?_,?_⟩
      .rw[hmap,hsum2, <-Nat.add_assoc, <-Nat.add_assoc];exact(hmL.done hbok.each (by omega)).tidy qs
      .rw[hps] at h2;exact h2.up2.right
     have hii:(j:Int)<rs.length:=by omega
     have HJn:=ah hJn;clear hmL hsL hrow hcell hrd hcp hbok htk hsum hsum2 hfew2 hmap hlb hkk htt hqk HD1 hjb hJn;go_wp2_with (first
      | (go_at_call 66;(with_reducible refine(HUl.o _ (Chg.refl No _)).mono ?_);rintro e w11 ⟨B,bd,ps,rfl,hp1,hp2,hs17⟩;have HP1:=ah hp1;have HP2:=ah hp2;have HS17:=ah hs17;clear hp1 hp2 hs17)
      | (go_at_call 65;(with_reducible refine(HDn.o _ _ _ _ HP1.o HP2.o HS17.o).mono ?_);rintro e w12 ⟨rfl,hs18⟩;have HS18:=ah hs18;clear hs18))
     go_roundw
     .exact⟨j+1,by omega,by push_cast;rfl,HS18.o.out⟩
     .simp[intOf];omega
    .have hje:j=rs.length:=by omega
     subst hje;rw[HRl.o,List.take_length] at hmL;have HML:Hid (MemIs L ((maxS E).toNat+bs.length) (mapD E bs) t):=⟨hmL.sort,hmL.each,hmL.top,Nat.le_trans hmL.len HCon.o.few,hmL.pairs,hmL.tells⟩;have HS19:Hid (Sat w0 (SpaceP s d S*(Disk d D*(DbP b d s ⟨lg,L,(maxS E).toNat+bs.length,fun _=>none,0,1⟩*F))) wr):=by
      rw[HRl.o] at hsL;rw[<-HRl.o] at hsL ⊢;exact(hsL.of (show _=Row 41 1 (.slice RA rs.length rc) rs.length (rs.map slOf)*(OwnR rs*(SpaceP s d S*(Disk d D*(DbP b d s ⟨lg,L,(maxS E).toNat+rs.length,fun _=>none,0,1⟩*F)))) by ac_rfl)).right.right
     clear hmL hsL HD1 hlt;go_wp2_with (go_at_call 67;(with_reducible refine(HFi.o _ _ _ HS19.o).mono ?_);rintro e w13 ⟨LA,lc,rfl,hs20⟩;have HS20:=ah hs20;clear hs20);obtain⟨ls,hls⟩: ∃ ls,ls=S.files.map lieOf:=⟨_,rfl⟩;obtain⟨N,hN⟩: ∃ N,N=S.files.length:=⟨_,rfl⟩;rw[<-hls] at HS20 HNm;rw[<-hN] at HS20 HNl;rw[<-hN];have hlsN:ls.length=N:=by rw[hls,hN,List.length_map]
     have HlsN:=ah hlsN;obtain⟨S2,D2,rv,hr⟩: ∃ S2 D2 rv,S.switch [] [(i:Int)+2] D=(S2,D2,rv):=⟨_,_,_,rfl⟩;rw[hr] at HSwB;have HRe:=ah hr;have hN3:N<=3:=by rcases HNl.o with ⟨_,h1⟩ | ⟨_,h1⟩<;>omega
     have HS21:Hid (Sat w0 (DbP b d s ⟨lg,L,(maxS E).toNat+bs.length,fun _=>none,0,1⟩*(SpaceP s d S*(Disk d D*(Row 128 3 (.slice LA N lc) N (ls.flatMap lieV)*F)))) w13):=HS20.o.of (by ac_rfl);clear HS20 HS19 hls hN hr hlsN HFi;go_loopw [104] (fun iv wr=> ∃ (j:Nat),j<=N/\iv = .int .i64 (j:Int)/\Hid ((j<=2/\Sat w0 (DbP b d s ⟨lg,L,(maxS E).toNat+bs.length,fun _=>none,0,1⟩*(SpaceP s d S*(Disk d D*(Row 128 3 (.slice LA N lc) N (ls.flatMap lieV)*F)))) wr)\/(j=3/\rv=0/\y.isSome=true/\Sat w0 (DbP b d s ⟨lg,L,(maxS E).toNat+bs.length,fun _=>none,0,1⟩*(SpaceP s d S2*(Disk d D2*(Row 128 3 (.slice LA N lc) N (ls.flatMap lieV)*F)))) wr))) (fun iv _=>N - (intOf iv).toNat)
     case atStart=>exact⟨0,by omega,rfl,.inl ⟨by omega,HS21.o⟩⟩
     case round=>
      obtain⟨j,hj,rfl,HD2⟩:=hrel;by_cases hlt:j<N
      .have hs30:Sat w0 (DbP b d s ⟨lg,L,(maxS E).toNat+bs.length,fun _=>none,0,1⟩*(SpaceP s d S*(Disk d D*(Row 128 3 (.slice LA N lc) N (ls.flatMap lieV)*F)))) wr:=by
        rcases HD2.o with h1 | h1
        .exact h1.2
        .omega
       obtain⟨lb,lo2,hA,y0,y1,y2⟩:=lie3_at hs30.up4.row_rdvX (by rw[HlsN.o];exact hlt);subst hA;have hnm:=HNm.o j (by rw[HlsN.o];exact hlt);generalize ls[j]'(by rw[HlsN.o];exact hlt)=x at*
       obtain⟨xn,xf,xb⟩:=x;replace y0:_=some (Value.int .i64 (xn:Int)):=y0;replace y1:_=some (Value.int .i64 (xf:Int)):=y1;replace y2:_=some (Value.int .i64 (xb:Int)):=y2;replace hnm:(j<2/\(xn:Int)<=lg)\/(j=2/\(xn:Int)=(i:Int)+2/\y.isSome=true):=hnm;have cb2:wr.cell? ⟨b,2,none⟩=some (.int .i64 (lg:Int)):=by
        obtain⟨tb2,hr2,mb2,ns2,_,hs0⟩:=hs30.db;exact(hs0.of (db_d ..)).cell 2
       have hii:(j:Int)<N:=by omega
       go_upto_region 23 with fail;have hs31:=hs30.allocPt 128 #[.int .i64 (xn:Int),.int .i64 (xf:Int),.int .i64 (xb:Int)];have cb3:=((Chg.refl No wr).alloc (.cells #[.int .i64 (xn:Int),.int .i64 (xf:Int),.int .i64 (xb:Int)] 128)).cell cb2 id;obtain⟨W7,hW7⟩: ∃ W7,W7=wr.alloc (.cells #[.int .i64 (xn:Int),.int .i64 (xf:Int),.int .i64 (xb:Int)] 128):=⟨_,rfl⟩;rw[<-hW7] at hs31 cb3;rw[<-hW7];obtain⟨bx,hbx⟩: ∃ bx,bx=wr.heap.size:=⟨_,rfl⟩;rw[<-hbx] at hs31;rw[<-hbx];have x0:=hs31.cell 0;have CB3:=ah cb3;have X0:Hid (W7.cell? ⟨bx,0,none⟩=some (.int .i64 (xn:Int))):=x0;have HS31:=ah hs31;have HNx:=ah hnm;clear hs30 hs31 hW7 hbx cb2 cb3 y0 y1 y2 x0 hnm;refine wp_region_held_drew (S:=fun w'=>w'.cell? ⟨bx,0,none⟩=some (.int .i64 (xn:Int))/\w'.cell? ⟨b,2,none⟩=some (.int .i64 (lg:Int))) (by kernel_rfl) ⟨(by exact X0.o),(by exact CB3.o)⟩ ?_;intro hS0;refine rtk 0 ?_;refine rtk 1 ?_;refine rtk 2 ?_;refine rtk 3 ?_;refine rtk 4 ?_;refine rtk 5 ?_;refine rtk 6 ?_;refine wpAnyH_done (by kernel_rfl) ?_ _;have X2:W7.drew.cell? ⟨bx,0,none⟩=some (.int .i64 (xn:Int)):=X0.o;have hs35:=HS31.o.new (Chg.refl No W7).drew;obtain⟨W9,hW9⟩: ∃ W9,W9=W7.drew:=⟨_,rfl⟩;rw[<-hW9] at hs35 X2;rw[<-hW9];have HX2:=ah X2;have HS32:=ah hs35;clear hW9 hs35 HS31 X0 CB3 X2;rcases HNx.o with ⟨hj2,hle⟩ | ⟨hj2,hxn,hy⟩
       .have h1:¬ (lg:Int)<xn:=by omega
        clear hle;go_wp2_with fail;go_roundw
        .exact⟨j+1,by omega,by push_cast;rfl,.inl ⟨by omega,HS32.o.right⟩⟩
        .simp[intOf];omega
       .have hlgi:=HLg.o;have h1:(lg:Int)<(i:Int)+2:=by omega
        have hlgi2:=ah hlgi;clear hlgi;have x0':W9.cell? ⟨bx,0,none⟩=some (.int .i64 ((i:Int)+2)):=by rw[<-hxn];exact HX2.o
        have hs33:=HS32.o.right.allocPt 3 #[.int .i64 ((i:Int)+2)];have HS33:Hid (Sat w0 (Pt W9.heap.size 3 #[.int .i64 ((i:Int)+2)]*(SpaceP s d S*(Disk d D*(DbP b d s ⟨lg,L,(maxS E).toNat+bs.length,fun _=>none,0,1⟩*(Row 128 3 (.slice (some ⟨lb,lo2,none⟩) N lc) N (ls.flatMap lieV)*F))))) (W9.alloc (.cells #[.int .i64 ((i:Int)+2)] 3))):=hs33.of (by ac_rfl);clear hs33;rw[hxn];by_cases h0:rv=0
        .subst h0;go_upto_region 25 with (go_at_call 55;(with_reducible refine(HSwB.o _ _ _ _ HS33.o).mono ?_);rintro e w15 ⟨rfl,hs34⟩;have HS34:=ah hs34;clear hs34)
         go_wp2_with fail;go_roundw
         .exact⟨3,by omega,by first | rfl | (rw[hj2];rfl),.inr ⟨rfl,by first | rfl | trivial,hy,(HS34.o.of (show _=Pt W9.heap.size 3 #[.int .i64 ((i:Int)+2)]*(DbP b d s ⟨lg,L,(maxS E).toNat+bs.length,fun _=>none,0,1⟩*(SpaceP s d S2*(Disk d D2*(Row 128 3 (.slice (some ⟨lb,lo2,none⟩) N lc) N (ls.flatMap lieV)*F)))) by ac_rfl)).right⟩⟩
         .simp[intOf];omega
        .have hb0:(rv !=0)=true:=by rw[bne_iff_ne];exact h0
         have H0:=ah h0;clear h0;go_upto_region 25 with (go_at_call 55;(with_reducible refine(HSwB.o _ _ _ _ HS33.o).mono ?_);rintro e w15 ⟨rfl,hs34⟩;have HS34:=ah hs34;clear hs34)
         go_wp2_with fail;go_ret2;unfold OpnR;rw[<-HSe.o,HRe.o];refine .inr ⟨hy,H0.o,rfl,?_⟩;exact(HS34.o.of (show _=SpaceP s d S2*(Pt W9.heap.size 3 #[.int .i64 ((i:Int)+2)]*(DbP b d s ⟨lg,L,(maxS E).toNat+bs.length,fun _=>none,0,1⟩*(Row 128 3 (.slice (some ⟨lb,lo2,none⟩) N lc) N (ls.flatMap lieV)*(Disk d D2*F)))) by ac_rfl)).right.right.right.right
      .have hje:j=N:=by omega
       subst hje;have HD3:=ah HD2.o;clear HD2 hlt;go_wp2_with fail;go_ret2;unfold OpnR;rw[<-HSe.o,HRe.o];refine .inl ⟨b,s,L,rfl,HML.o,?_⟩;rcases HD3.o with ⟨h1,h2⟩ | ⟨h1,h2,h3,h4⟩
       .rcases HNl.o with ⟨h5,h6⟩ | ⟨h5,h6⟩
        .refine .inl ⟨h5,?_⟩;rw[<-HLg.o];exact(h2.of (show _=Row 128 3 (.slice LA j lc) j (ls.flatMap lieV)*(DbP b d s ⟨lg,L,(maxS E).toNat+bs.length,fun _=>none,0,1⟩*(SpaceP s d S*(Disk d D*F))) by ac_rfl)).right
        .omega
       .refine .inr ⟨h3,h2,?_⟩;rw[<-HLg.o];exact(h4.of (show _=Row 128 3 (.slice LA j lc) j (ls.flatMap lieV)*(DbP b d s ⟨lg,L,(maxS E).toNat+bs.length,fun _=>none,0,1⟩*(SpaceP s d S2*(Disk d D2*F))) by ac_rfl)).right
end
section
variable {n t k:Nat} {D D':Dk} {S S':Spc} {v:Sd} {M:List Kv} {olds:Int->Option (List Kv)} {Ms:List (List Kv)}
theorem FndI.len (h:FndI n t k D S Ms):D.cells.length=n/\64<=n/\n<=65536/\D.off=false:=by
 obtain⟨sf,lim,i,E,bs,x,⟨slot,turn,lo,fa,fb,LF,y,e1,e2,hd⟩,_⟩:=h;exact⟨hd.len,hd.big,hd.most,hd.good.fils.off⟩
theorem MemIs.up {L:List Ent} {q t t':Nat} {M:List Kv} (h:MemIs L q M t) (ht:t<=t'):MemIs L q M t':=⟨h.sort,h.each,h.top,Nat.le_trans h.len ht,h.pairs,h.tells⟩
theorem StI.mono (h:StI n t k D S v M olds) {t' k':Nat} (ht:t<=t') (hk:k<=k'):StI n t' k' D S v M olds:=by
 obtain⟨sf,lim,i,E,bs,h1,h2,h3,h4,h5,h6⟩:=h.dsk;have:=h.few;exact⟨⟨sf,lim,i,E,bs,h1,h2,h3.mono ht (Nat.le_refl _),h4,by omega,by omega⟩,h.mem.up ht,h.snaps,h.cnt.mono (by omega),by omega⟩
theorem StI.again (h:StI n t k D S v M olds) (hk:k<=100000): ∃ S',openX D=(some S',0)/\FndI n t (k+1) D S' [M]:=by
 obtain⟨sf,lim,i,E,bs,⟨slot,turn,lo,fa,fb,LF,y,e1,e2,hd⟩,hlog,hcon,hmap,hl,hi⟩:=h.dsk;obtain⟨S',h1,h2⟩:=hd.again (by omega);exact⟨S',h1,sf,lim+1,i,E,bs,_,h2,hcon.mono (Nat.le_refl _) (by have:=h.few.1;omega),by rw[hmap];exact List.mem_singleton_self _,by omega,by omega,h.cnt.mono (by omega)⟩
end
section
variable {w0 w:World} {F:SP}
def OpenT (w0:World) (F:SP) (d n t k:Nat) (D:Dk) (Ms:List (List Kv)) (x:Ending) (w':World):Prop:=
 ∃ M ∈ Ms,(∃ b s S' D' v',x = .returned (.tuple #[.pointer (some ⟨b,0,none⟩),.int .i64 0])/\StI n t (k+1) D' S' v' M (fun _=>none)/\D'.armed<=D.armed/\v'.snaps=(fun _=>none)/\v'.next=1/\Sat w0 (DbP b d s v'*(SpaceP s d S'*(Disk d D'*F))) w')\/
  (x = .returned (.tuple #[.pointer none,.int .i64 21])/\D.armed≠0/\ ∃ D',D'.off=true/\D'.cells.length=n/\CrsI n t (k+1) D' [M]/\Sat w0 (Disk d D'*F) w')
theorem open_find {S:Spc} {Ms:List (List Kv)} (d n t k:Nat) (D:Dk) (hf:FndI n t k D S Ms) (ho:openX D=(some S,0)) (ht:t<=1024) (hk:k<=10000) (ha:D.armed<=9223372036854775807) (h:Sat w0 (Disk d D*F) w):
  Calls Tryz.prog 19 #[.pointer (some ⟨d,0,none⟩)] w (OpenT w0 F d n t k D Ms):=by
 obtain⟨sf,lim,i,E,bs,x,⟨slot,turn,lo,fa,fb,LF,y,e1,e2,hd⟩,hcon,hmap,hl,hi,hc⟩:=hf;subst e1;refine(open_st d n t k D slot turn lo fa fb LF y sf lim i E bs ho hd hcon ht hk hl hi hc ha h).mono ?_;intro e w' hh;have hq0:(((maxS E).toNat:Nat):Int)=maxS E:=by have:=(maxS_ge E 0).1;unfold maxS;omega
 have hcon2:Con n t ((maxS E).toNat+bs.length) E bs:=⟨hcon.img,hcon.bats,hcon.few,hcon.siz,fun x hx=>by
  have h1:x.seq<=maxS E:=(maxS_ge E 0).2 x hx;omega,by omega⟩
 have hqk:(maxS E).toNat+bs.length<=k:=by
  have h2:=hcon.bl;have h1:maxS E<=((k - bs.length:Nat):Int):=maxS_le E 0 (by omega) (fun x hx=>by have:=hcon.seqs x hx;omega);omega
 have hst: ∀ (L:List Ent) (D':Dk) (S':Spc) (sf':Nat->Nat) (lim':Nat),MemIs L ((maxS E).toNat+bs.length) (mapD E bs) t->Dsk n D' S' sf' lim' i E bs bs.length false->lim'<=4*(k+1)+8->Cnt D' (20000*(k+1)+100)->StI n t (k+1) D' S' ⟨i+1,L,(maxS E).toNat+bs.length,fun _=>none,0,1⟩ (mapD E bs) (fun _=>none):=fun L D' S' sf' lim' hm hdk hl' hc'=>
  ⟨⟨sf',lim',i,E,bs,hdk,rfl,hcon2,rfl,hl',by omega⟩,hm,fun j=> .inl ⟨rfl,rfl⟩,hc',by show (maxS E).toNat+bs.length<=k+1/\0<=k+1/\1<=k+1+1;omega⟩
 rcases hh with ⟨b,s,L,rfl,hm,hcase⟩ | ⟨hy,hr,rfl,hs⟩
 .refine⟨_,hmap,.inl ?_⟩;rcases hcase with ⟨hy,hs⟩ | ⟨hy,hr,hs⟩
  .have hyn:y=none:=by cases y with | none=>rfl | some z=>cases hy
   subst hyn;exact⟨b,s,_,D,_,rfl,hst L D _ sf lim hm hd.dsk (by omega) (hc.mono (by omega)),Nat.le_refl _,rfl,rfl,hs⟩
  .obtain⟨z,hz⟩: ∃ z,y=some z:=by cases y with | none=>cases hy | some z=>exact⟨z,rfl⟩
   subst hz;have hb:=hd.back (by omega)
   cases hb with
   | ok D1 sf1 e1 h1 c1 r1=>
    rw[e1] at hs;exact⟨b,s,_,D1,_,rfl,hst L D1 _ sf1 (lim+1) hm h1.dsk (by omega) ((c1 _ hc).mono (by omega)),r1,rfl,rfl,hs⟩
   | off ha1 S1 D1 e1 o1 h1 c1 l1=>rw[e1] at hr;exact absurd hr (show ¬ ((21:Int)=0) by decide)
 .obtain⟨z,hz⟩: ∃ z,y=some z:=by cases y with | none=>cases hy | some z=>exact⟨z,rfl⟩
  subst hz;have hb:=hd.back (by omega)
  cases hb with
  | ok D1 sf1 e1 h1 c1 r1=>rw[e1] at hr;exact absurd rfl hr
  | off ha1 S1 D1 e1 o1 h1 c1 l1=>
   rw[e1] at hs ⊢;refine⟨_,hmap,.inr ⟨rfl,ha1,D1,o1,l1,?_,hs⟩⟩;refine h1.crs (by omega) (by omega) (fun m h2 h3=>?_) (fun m h2 h3=>?_) ((c1 _ hc).mono (by omega))
   .rw[List.take_of_length_le (by omega)];exact hcon.mono (Nat.le_refl _) (by omega)
   .rw[List.take_of_length_le (by omega)];exact List.mem_singleton_self _
theorem format_find (d n k m slot turn lim:Nat) (D D1:Dk) (sf:Nat->Nat) (hn:64<=n/\n<=65536) (ho:D.off=false) (hl:D.cells.length=n) (hf:formatX D=(D1,0)) (hg:Good D1 ⟨slot,turn,[]⟩ sf lim) (hl1:D1.cells.length=n) (ha:D1.armed=0) (haD:D.armed<=9223372036854775807) (hcD:Cnt D m) (hc:Cnt D1 m) (hm:m+2<=20000*k+100) (hk:k<=10000) (hlim:lim+3<=4*k+8)
  (h:Sat w0 (Disk d D*F) w):
  Calls Tryz.prog 18 #[.pointer (some ⟨d,0,none⟩)] w fun x w'=>x = .returned (.int .i64 0)/\ ∃ D' S',openX D'=(some S',0)/\FndI n 0 k D' S' [[]]/\D'.armed=0/\Sat w0 (Disk d D'*F) w':=by
 refine(format_st d n m slot turn lim D D1 sf hn ho hl hf hg hl1 ha haD hcD hc (by omega) (by omega) h).mono ?_;rintro x w' ⟨rfl,D',sl,tu,lo,a,b,sf',h1,h2,h3,h4⟩;obtain⟨S',h5,h6⟩:=Dsx.again (bs:=[]) h1 (by omega);refine⟨rfl,D',S',h5,⟨sf',lim+2+1,2,[],[],_,h6,⟨img_nil,(fun c hc=>by cases hc),by simp,?_,(fun x hx=>by cases hx),Nat.zero_le _⟩,List.mem_singleton_self _,by omega,by omega,h2.mono (by omega)⟩,h3,h4⟩;show 0+400<=imgN n*480;have:=(img_le hn.2).1;omega
end
def Sto (w0:World) (F:SP) (b d n t k a nx:Nat) (M:List Kv) (olds:Int->Option (List Kv)) (w:World):Prop:=
 ∃ s S v D,StI n t k D S v M olds/\D.armed<=a/\v.next=nx/\Sat w0 (DbP b d s v*(SpaceP s d S*(Disk d D*F))) w
section
variable {w0 w w':World} {F F':SP} {b d n t k a nx:Nat} {M:List Kv} {olds:Int->Option (List Kv)}
theorem Sto.sat (h:Sto w0 F b d n t k a nx M olds w):Sat w0 F w:=by
 obtain⟨s,S,v,D,h1,h2,h3,h4⟩:=h;exact h4.right.right.right
theorem Sto.map (h:Sto w0 F b d n t k a nx M olds w) (f: ∀ G,Sat w0 (G*F) w->Sat w0 (G*F') w'):Sto w0 F' b d n t k a nx M olds w':=by
 obtain⟨s,S,v,D,h1,h2,h3,h4⟩:=h;exact⟨s,S,v,D,h1,h2,h3,(f _ (h4.of (show _=DbP b d s v*(SpaceP s d S*Disk d D)*F by ac_rfl))).of (by ac_rfl)⟩
theorem Sto.new (h:Sto w0 F b d n t k a nx M olds w) (hk:Chg No w w'):Sto w0 F b d n t k a nx M olds w':=h.map fun G hG=>hG.new hk
theorem Sto.of (h:Sto w0 F b d n t k a nx M olds w) (e:F=F'):Sto w0 F' b d n t k a nx M olds w:=by subst e;exact h
theorem Sto.mono (h:Sto w0 F b d n t k a nx M olds w) {t' k':Nat} (ht:t<=t') (hk:k<=k'):Sto w0 F b d n t' k' a nx M olds w:=by
 obtain⟨s,S,v,D,h1,h2,h3,h4⟩:=h;exact⟨s,S,v,D,h1.mono ht hk,h2,h3,h4⟩
theorem Sto.drop {A:SP} (h:Sto w0 (A*F) b d n t k a nx M olds w):Sto w0 F b d n t k a nx M olds w:=h.map fun G hG=>hG.up2.right
theorem Sto.pairs (h:Sto w0 F b d n t k a nx M olds w):M.Pairwise kLT/\M.length<=t/\ ∀ p ∈ M,p.1.length<=200/\p.2.length<=20000:=by
 obtain⟨s,S,v,D,h1,h2,h3,h4⟩:=h;have h5:=h1.mem.img;refine⟨h1.mem.pairs,?_,mem_sizes h1.mem⟩;have:=h5.2.2.1;rw[<-h5.2.1,List.length_map];exact this
theorem sget (K:Slc) (hk:Rd w K.1 K.2.2) (ht:t<=1024) (h:Sto w0 F b d n t k a nx M olds w):
  Calls Tryz.prog 32 #[.pointer (some ⟨b,0,none⟩),.slice K.1 K.2.2.length K.2.1] w fun x w'=> ∃ A c,x = .returned (.tuple #[.slice A ((getK K.2.2 M).getD []).length c,.bool (getK K.2.2 M).isSome])/\Sto w0 (Row 5 1 (.slice A ((getK K.2.2 M).getD []).length c) ((getK K.2.2 M).getD []).length (((getK K.2.2 M).getD []).map bv)*F) b d n t k a nx M olds w':=by
 obtain⟨s,S,v,D,h1,h2,h3,h4⟩:=h;have h9:=get_st b d s v K hk h4 (by have:=h1.mem.len;omega);rw[h1.mem.tells] at h9;refine h9.mono ?_;rintro x w' ⟨A,c,rfl,hs⟩;exact⟨A,c,rfl,s,S,v,D,h1,h2,h3,hs.of (by ac_rfl)⟩
theorem sscan (f tt:Slc) (most:Int) (hf:Rd w f.1 f.2.2) (ht':Rd w tt.1 tt.2.2) (ht:t<=1024) (h:Sto w0 F b d n t k a nx M olds w):
  Calls Tryz.prog 24 #[.pointer (some ⟨b,0,none⟩),.slice f.1 f.2.2.length f.2.1,.slice tt.1 tt.2.2.length tt.2.1,.int .i64 most] w fun x w'=> ∃ (es qs:List En) (B:Option Addr) (c:Nat),x = .returned (.slice B qs.length c)/\(∀ q ∈ qs,q ∈ es)/\qs.map (fun q=>pairE q.ent)=(cutM f.2.2 tt.2.2 M).take most.toNat/\
   Sto w0 (Row 65 2 (.slice B qs.length c) qs.length (qs.flatMap prV)*(OwnE es*F)) b d n t k a nx M olds w':=by
 obtain⟨s,S,v,D,h1,h2,h3,h4⟩:=h;have h9:=scan_st b d s v f tt most hf ht' h4 (by have:=h1.mem.len;omega);rw[h1.mem.view] at h9;refine h9.mono ?_;rintro x w' ⟨es,qs,B,c,rfl,h5,h6,hs⟩;exact⟨es,qs,B,c,rfl,h5,h6,s,S,v,D,h1,h2,h3,hs.of (by ac_rfl)⟩
end
section
variable {w0 w w':World} {F F':SP} {b d n t k a nx:Nat} {M:List Kv} {olds:Int->Option (List Kv)}
theorem lit_fi {e:TypeId} {B:Nat} {cs:Array Value} {W:World} (h:Sat w0 (Pt B e cs*F) W) {xs:List Value} (hx:cs.toList=xs):RdV W (some ⟨B,0,none⟩) xs:=by
 subst hx;exact RdV.of_at h.at (fun j hj=>by rw[Array.getElem?_toList.symm,List.getElem?_eq_getElem hj])
end
theorem less_nil (k:List UInt8):Op.bytesLess k []=false:=by rw[cb_less];cases k<;>rfl
theorem inK_nil (k:List UInt8):inK [] [] k=true:=by
 unfold inK;rw[less_nil];rfl
theorem cutM_nil (M:List Kv):cutM [] [] M=M:=by
 unfold cutM;rw[List.filter_eq_self];exact fun p _=>inK_nil p.1
section
variable {w0 w w':World} {F F' A:SP} {b d n t k a nx:Nat} {M:List Kv} {olds:Int->Option (List Kv)} {B:Option Addr} {c:Nat} {qs es:List En}
def TolF (F:SP) (B:Option Addr) (qs:List En):Prop:= ∀ (w0 w:World),Sat w0 F w->RdV w B (qs.flatMap prV)/\EnsR w qs
theorem TolF.left (h:TolF F B qs):TolF (A*F) B qs:=fun w0 w hs=>h w0 w hs.right
def TolP (B:Option Addr) (c:Nat) (qs es:List En):SP:=Row 65 2 (.slice B qs.length c) qs.length (qs.flatMap prV)*OwnE es
theorem told_p (h: ∀ q ∈ qs,q ∈ es):TolF (TolP B c qs es*F) B qs:=fun w0 w hs=>by
 have h1:=hs.of (star_assoc _ _ _);exact⟨h1.row_rdK,fun q hq=>ownE_r h1.right q (h q hq)⟩
theorem prV_len (e:En):(prV e).length=2:=rfl
theorem prs_len (es:List En):(es.flatMap prV).length=es.length*2:=flatK_len prV_len es
theorem prs_ones (es:List En): ∀ u ∈ es.flatMap prV,u.oneCell'=true:=fun u hu=>by
 obtain⟨e,_,h⟩:=List.mem_flatMap.1 hu;simp[prV] at h;rcases h with rfl | rfl<;>rfl
theorem pairsE_pre (qs:List En) (m:Nat):pairsE (qs.take m)=(pairsE qs).take m:=by unfold pairsE;rw[List.map_take]
theorem pairsE_app (qs fs:List En):pairsE (qs++fs)=pairsE qs++pairsE fs:=by unfold pairsE;rw[List.map_append]
theorem sscanT (f tt:Slc) (most:Int) (M':List Kv) (hm:(cutM f.2.2 tt.2.2 M).take most.toNat=M') (hf:Rd w f.1 f.2.2) (ht':Rd w tt.1 tt.2.2) (ht:t<=1024) (h:Sto w0 F b d n t k a nx M olds w):
  Calls Tryz.prog 24 #[.pointer (some ⟨b,0,none⟩),.slice f.1 f.2.2.length f.2.1,.slice tt.1 tt.2.2.length tt.2.1,.int .i64 most] w fun x w'=> ∃ (B:Option Addr) (c:Nat) (qs es:List En),x = .returned (.slice B qs.length c)/\pairsE qs=M'/\(∀ q ∈ qs,q ∈ es)/\qs.length<=c/\Sto w0 (TolP B c qs es*F) b d n t k a nx M olds w':=by
 refine(sscan f tt most hf ht' ht h).mono ?_;rintro x w' ⟨es,qs,B,c,rfl,h1,h2,h3⟩;have h5:qs.length<=c:=by
  obtain⟨A',c',e,h4,_⟩:=h3.sat.row_sl;injection e with e1 e2 e3
  omega
 exact⟨B,c,qs,es,rfl,h2.trans hm,h1,h5,h3.of (by unfold TolP;ac_rfl)⟩
theorem pairs_told {qs fs:List En} {B C:Option Addr} {c c':Nat} (h1:TolF F B qs) (h2:TolF F C fs) (he:pairsE qs=pairsE fs) (hn:qs.length<=1000000) (h:Sto w0 F b d n t k a nx M olds w):
  Calls Tryz.prog 23 #[.slice B qs.length c,.slice C fs.length c'] w fun x w'=>x = .returned (.bool true)/\Sto w0 F b d n t k a nx M olds w':=by
 obtain⟨a1,a2⟩:=h1 _ _ h.sat;obtain⟨b1,b2⟩:=h2 _ _ h.sat;refine(pairs_any B C c c' qs fs w a1 a2 b1 b2 hn).mono ?_;rintro x w' ⟨rfl,hk⟩;rw[decide_eq_true he];exact⟨rfl,h.new hk⟩
end
structure StpD where
 op:Int
 n:Int
 bA:Option Addr
 bc:Nat
 ps:List Pu
 key:Slc
 too:Slc
 kA:Option Addr
 kc:Nat
 keep:List Bool
 torn:Int
 cut:Int
end Go.Proofs.YtmbaiglpgaoogaaGreat
