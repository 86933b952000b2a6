/- Joined, as they were built one by one: Sto22 Sto20 Sto23 Sto24 Sto25 StKey StTold StCut StOpen. -/
import Derived.OpenShut
import Derived.Test.YtmbaiglpgaoogaaGreatC02
import Derived.Test.YtmbaiglpgaoogaaGreatC08
import Derived.Test.YtmbaiglpgaoogaaGreatC10
import Derived.Test.YtmbaiglpgaoogaaGreatC11
import Derived.Test.YtmbaiglpgaoogaaGreatC12
import Derived.Test.YtmbaiglpgaoogaaGreatC15
import Derived.Test.YtmbaiglpgaoogaaGreatC19
import Derived.Test.YtmbaiglpgaoogaaGreatC22
import Derived.Test.YtmbaiglpgaoogaaGreatC24
import Derived.Test.YtmbaiglpgaoogaaGreatC25
set_option maxHeartbeats 16000000
set_option linter.unusedVariables false
set_option maxRecDepth 100000
namespace Go.Proofs.YtmbaiglpgaoogaaGreat
open Go.RowKit Z
theorem Jk {slot turn n i:Nat} {lo:Bool} {a b:Nat × Nat} {IF LF:List (List UInt8)} {y:Xf} (hi:i % 2=0):nK ((cq slot turn n i lo a b IF LF y).files.map (·.num))=i+1:=by
 have h1:¬ i % 2=1:=by omega
 have h2:(i+1) % 2=1:=by omega
 have h3:¬ (i+2) % 2=1:=by omega
 cases y with
 | none=>
  show (if (i+1) % 2=1 then max (if i % 2=1 then max 0 i else 0) (i+1) else _)=_;rw[if_pos h2,if_neg h1];omega
 | some z=>
  show (if (i+2) % 2=1 then _ else (if (i+1) % 2=1 then max (if i % 2=1 then max 0 i else 0) (i+1) else _))=_;rw[if_neg h3,if_pos h2,if_neg h1];omega
theorem tP {w0 w:World}: ∀ {ks:bP} {F:SP},Sat w0 (dM ks*F) w-> ∀ x ∈ ks,x.2.2.length<=x.2.1/\x.2.1<=maxLen
 | [],_,_=>fun x hx=>by cases hx
 | y::ks,F,h=>fun x hx=>by
  have h1:Sat w0 (Row 5 1 (aE y) y.2.2.length (y.2.2.map bv)*(dM ks*F)) w:=h.of (aj _ _ _);rcases List.mem_cons.1 hx with rfl | hx
  .obtain⟨A,c,e,h2,h3⟩:=h1.aT;injection e with e1 e2 e3
   rw[e3];exact⟨h2,h3⟩
  .exact tP h1.right x hx
theorem JR (w:World):(Instr.makeMap 111 none).run Tryz.prog w = .ok (.map (some w.heap.size)) (w.alloc (.map #[] 0)):=by
 simp[Instr.makeMap]
def cX (l:List aw):Int:=l.foldl (fun m e=>max m e.seq) 0
theorem EO (l:List aw) (e:aw):cX (l++[e])=max (cX l) e.seq:=by unfold cX;rw[List.foldl_append];rfl
theorem wj {k:Int}: ∀ (l:List aw) (m:Int),m<=k->(∀ x ∈ l,x.seq<=k)->l.foldl (fun m e=>max m e.seq) m<=k
 | [],m,h,_=>h
 | x::l,m,h,h2=>wj l _ (by have:=h2 x List.mem_cons_self;show max m x.seq<=k;omega) fun y hy=>h2 y (List.mem_cons_of_mem _ hy)
theorem nC: ∀ (l:List aw) (m:Int),m<=l.foldl (fun m e=>max m e.seq) m/\ ∀ x ∈ l,x.seq<=l.foldl (fun m e=>max m e.seq) m
 | [],m=>⟨Int.le_refl _,fun x h=>by cases h⟩
 | y::l,m=>by
  obtain⟨h1,h2⟩:=nC l (max m y.seq);refine⟨by show m<=l.foldl _ (max m y.seq);omega,fun x hx=>?_⟩;rcases List.mem_cons.1 hx with rfl | hx
  .show x.seq<=l.foldl _ (max m x.seq);omega
  .exact h2 x hx
section
variable {w0 w:World} {F:SP}
def KT (w0:World) (F:SP) (d:Nat) (D:Dk) (t i:Nat) (E:List aw) (bs:List (List cJ)) (yb:Bool) (S:aN) (x:Ending) (w':World):Prop:=
 (∃ b s L,x = .returned (.tuple #[.pointer (some ⟨b,0,none⟩),.int .i64 0])/\cR L ((cX E).toNat+bs.length) (iY E bs) t/\
  ((yb=false/\Sat w0 (dD b d s ⟨i+1,L,(cX E).toNat+bs.length,fun _=>none,0,1⟩*(ag s d S*(ae d D*F))) w')\/(yb=true/\(S.switch [] [(i:Int)+2] D).2.2=0/\Sat w0 (dD b d s ⟨i+1,L,(cX E).toNat+bs.length,fun _=>none,0,1⟩*(ag s d (S.switch [] [(i:Int)+2] D).1*(ae d (S.switch [] [(i:Int)+2] D).2.1*F))) w')))\/
 (yb=true/\(S.switch [] [(i:Int)+2] D).2.2≠0/\x = .returned (.tuple #[.pointer none,.int .i64 (S.switch [] [(i:Int)+2] D).2.2])/\Sat w0 (ae d (S.switch [] [(i:Int)+2] D).2.1*F) w')
theorem Jv (d n t k:Nat) (D:Dk) (slot turn:Nat) (lo:Bool) (fa fb:Nat × Nat) (LF:List (List UInt8)) (y:Xf) (sf:Nat->Nat) (lim i:Nat) (E:List aw) (bs:List (List cJ))
 (ho:cP D=(some (cq slot turn n i lo fa fb (ak (ab E)) LF y),0)) (hd:iC n D slot turn lo fa fb LF y sf lim i E bs bs.length) (hcon:qf n t k E bs) (ht:t<=1024) (hk:k<=10000) (hlim:lim<=4*k+8) (hi:i<=2*k+2) (hc:dA D (20000*k+100)) (ha:D.armed<=9223372036854775807) (h:Sat w0 (ae d D*F) w):
 Calls Tryz.prog 19 #[.pointer (some ⟨d,0,none⟩)] w (KT w0 F d D t i E bs y.isSome (cq slot turn n i lo fa fb (ak (ab E)) LF y)):=by
 have hmost:=hd.aD;have hbig:=hd.big;have hnums: ∀ f ∈ (cq slot turn n i lo fa fb (ak (ab E)) LF y).files,f.num<=2147483647:=fun f hf=>by
  cases y with
  | none=>
   rcases List.mem_cons.1 hf with rfl | hf
   .show i<=_;omega
   .rw[List.mem_singleton.1 hf];show i+1<=_;omega
  | some z=>
   rcases List.mem_cons.1 hf with rfl | hf
   .show i<=_;omega
   rcases List.mem_cons.1 hf with rfl | hf
   .show i+1<=_;omega
   .rw[List.mem_singleton.1 hf];show i+2<=_;omega
 have hfew:(cq slot turn n i lo fa fb (ak (ab E)) LF y).files.length<=1000:=by have:=vC slot turn n i lo fa fb (ak (ab E)) LF y;omega
 have HOp:=ah (tX h (by rw[hd.len];omega) (by rw[hd.len];omega) ho);obtain⟨S,hS⟩: ∃ S,S=cq slot turn n i lo fa fb (ak (ab E)) LF y:=⟨_,rfl⟩;have HSe:=ah hS;obtain⟨lg,hlg⟩: ∃ lg,lg=i+1:=⟨_,rfl⟩;have HLg:=ah hlg;have hnew:nK (S.files.map (·.num))=lg:=by rw[hS,hlg];exact Jk hd.num.2
 have hgood:Good D S sf lim:=by rw[hS];exact hd.good
 rw[<-hS] at HOp hnums hfew;have HNe:Hid (∀ s W (G:SP),Sat w0 (ag s d S*(ae d D*G)) W->Calls Tryz.prog 57 #[.pointer (some ⟨s,0,none⟩)] W fun e w'=>e = .returned (.int .i64 (lg:Int))/\Sat w0 (ag s d S*(ae d D*G)) w'):=fun s W G hW=>by
  have h9:=Ex (xA hgood hW) hnums hfew;rw[hnew] at h9;exact h9
 have hlg1:((lg:Int)==0)=false:=by rw[beq_eq_false_iff_ne];omega
 have hlg2:lg<=1000000:=by omega
 have hw1:IntKind.i64.wrap ((lg:Int) - 1)=(lg:Int) - 1:=by rw[IntKind.wrap_i64];omega
 have himgf:S.find ((lg:Int) - 1)=some ⟨i,iZ n lo,aG n,fa.1,fa.2,ak (ab E)⟩:=by
  rw[hS,hlg,show ((i+1:Nat):Int) - 1=(i:Nat) by omega];exact wY
 have hlogf:S.find (lg:Int)=some ⟨i+1,iZ n lo+aG n,bC n,fb.1,fb.2,LF⟩:=by
  rw[hS,hlg,show ((i+1:Nat):Int)=(i:Int)+1 by omega];exact wb
 have HRd:Hid (∀ s W (G:SP),Sat w0 (ag s d S*(ae d D*G)) W->Calls Tryz.prog 64 #[.pointer (some ⟨s,0,none⟩),.int .i64 (lg:Int)] W fun e w'=> ∃ A c rs,e = .returned (.tuple #[.slice A rs.length c,.int .i64 0])/\bT rs=bs.map aJ/\Sat w0 (Row 41 1 (.slice A rs.length c) rs.length (rs.map aE)*(dM rs*(ag s d S*(ae d D*G)))) w'):=fun s W G hW=>by
  refine(Js hgood hW hlogf).mono ?_;rintro e w' ⟨u,rs,rfl,h1,h3⟩;obtain⟨A,c,rfl,_⟩:=h3.aT;exact⟨A,c,rs,rfl,h1.trans hd.tel.whole,h3⟩
 have HFi:Hid (∀ s W (G:SP),Sat w0 (ag s d S*(ae d D*G)) W->Calls Tryz.prog 67 #[.pointer (some ⟨s,0,none⟩)] W fun e w'=> ∃ A c,e = .returned (.slice A S.files.length c)/\Sat w0 (Row 128 3 (.slice A S.files.length c) S.files.length ((S.files.map kQ).flatMap dC)*(ag s d S*(ae d D*G))) w'):=fun s W G hW=>by
  refine(xA hgood hW).mono ?_;rintro e w' ⟨u,rfl,h3⟩;obtain⟨A,c,rfl,_⟩:=h3.aT;exact⟨A,c,rfl,h3⟩
 have HSwB:Hid (∀ s g W (G:SP),Sat w0 (Pt g 3 #[.int .i64 ((i:Int)+2)]*(ag s d S*(ae d D*G))) W->Calls Tryz.prog 55 #[.pointer (some ⟨s,0,none⟩),.slice none 0 0,.slice (some ⟨g,0,none⟩) 1 1] W (LL w0 (Pt g 3 #[.int .i64 ((i:Int)+2)]*G) s d (S.switch [] [(i:Int)+2] D))):=fun s g W G hW=>
  jB none 0 [] (some ⟨g,0,none⟩) 1 [(i:Int)+2] hgood (by omega) (hW.of (by ac_rfl)) (fun _ _ hne=>absurd rfl hne) (fun W' hW'=>jw hW' (fun j hj=>by
   match j,hj with
   | 0,_=>rfl)) (by simp) (by simp) (by simp) (by simp) (fun q hq=>by
   rw[List.mem_singleton] at hq;omega) (by have:=hc.writes;omega) (by have:=hc.pend;omega) ha
 have HNm:Hid (∀ j (hj:j<(S.files.map kQ).length),(j<2/\((S.files.map kQ)[j].1:Int)<=lg)\/(j=2/\((S.files.map kQ)[j].1:Int)=(i:Int)+2/\y.isSome=true)):=fun j hj=>by
  subst hS;subst hlg
  match j,hj with
  | 0,_=>exact .inl ⟨by omega,by show ((i:Nat):Int)<=((i+1:Nat):Int);omega⟩
  | 1,_=>exact .inl ⟨by omega,by show ((i+1:Nat):Int)<=((i+1:Nat):Int);omega⟩
  | 2,hj=>
   cases y with
   | none=>exact absurd hj (by simp[cq,Ea])
   | some z=>exact .inr ⟨rfl,by show ((i+2:Nat):Int)=(i:Int)+2;omega,rfl⟩
  | j+3,hj=>
   cases y with
   | none=>exact absurd hj (by simp[cq,Ea])
   | some z=>exact absurd hj (by simp[cq,Ea])
 have HNl:Hid ((y.isSome=false/\S.files.length=2)\/(y.isSome=true/\S.files.length=3)):=by
  subst hS
  cases y with
  | none=>exact .inl ⟨rfl,rfl⟩
  | some z=>exact .inr ⟨rfl,rfl⟩
 have HFr:Hid (∀ s W (G:SP),Sat w0 (ag s d S*(ae d D*G)) W->Calls Tryz.prog 59 #[.pointer (some ⟨s,0,none⟩),.int .i64 ((lg:Int) - 1)] W fun e w'=> ∃ A c ts,e = .returned (.tuple #[.slice A ts.length c,.int .i64 0])/\bT ts=ak (ab E)/\Sat w0 (Row 41 1 (.slice A ts.length c) ts.length (ts.map aE)*(ca ts*(ag s d S*(ae d D*G)))) w'):=fun s W G hW=>by
  refine(qR hgood hW himgf).mono ?_;rintro e w' ⟨u,ts,rfl,h1,h2,h3⟩;obtain⟨A,c,rfl,_⟩:=h3.aT;exact⟨A,c,ts,rfl,h1,h3⟩
 have hpl:(ab E).length<=20000000:=by
  have h1:=yT E fun e he=>⟨(hcon.wI.each e he).1.key.2,(hcon.wI.each e he).1.val⟩
  have h2:=tS E fun e he=>(hcon.wI.each e he).1
  rw[uw] at h1;have h3:=hcon.bU;omega
 have HJo:Hid (∀ A c (ts:bP) W (G:SP),bT ts=ak (ab E)->Sat w0 (Row 41 1 (.slice A ts.length c) ts.length (ts.map aE)*(ca ts*G)) W->Calls Tryz.prog 61 #[.slice A ts.length c] W fun e w'=> ∃ B bc,e = .returned (.slice B (ab E).length bc)/\(ab E).length<=bc/\bc<=maxLen/\Sat w0 (Row 5 1 (.slice B (ab E).length bc) (ab E).length ((ab E).map bv)*(Row 41 1 (.slice A ts.length c) ts.length (ts.map aE)*(ca ts*G))) w'):=fun A c ts W G ht hW=>by
  have hfl:(bT ts).flatten=ab E:=by rw[ht,D9]
  have htl:ts.length<=20000000:=by
   have h1:(bT ts).length=ts.length:=by unfold bT;rw[List.length_map]
   rw[<-h1,ht,sD];omega
  have h9:=eY A c ts W ⟨hW.ic,fun x hx=>hW.av.Fe hx⟩ (by rw[hfl];omega) (by omega);rw[hfl] at h9;refine h9.mono ?_;rintro e w' ⟨v,rfl,h1,h2⟩;have h3:=hW.dP h2 h1;obtain⟨B,bc,rfl,h4,h5⟩:=h3.aT;exact⟨B,bc,rfl,h4,h5,h3⟩
 have HUn:Hid (∀ B bc W (G:SP),(ab E).length<=bc->bc<=maxLen->Sat w0 (Row 5 1 (.slice B (ab E).length bc) (ab E).length ((ab E).map bv)*G) W->Calls Tryz.prog 60 #[.slice B (ab E).length bc] W fun e w'=> ∃ es A c,e = .returned (.slice A es.length c)/\es.map En.ao=E/\Sat w0 (Row 120 4 (.slice A es.length c) es.length (es.flatMap cu)*(aW es*G)) w'):=fun B bc W G h1 h2 hW=>by
  refine(wm B bc E W hcon.wI (by have:=hcon.bU;omega) hW.cj h1 h2).mono ?_;rintro e w' ⟨es,A,c,rfl,h3,h4⟩;have h5:=hW.join h4 (bf (bM _ _ _ _ _) (cS _));exact⟨es,A,c,rfl,h3,(h5.of (show _=Row 5 1 (.slice B (ab E).length bc) (ab E).length ((ab E).map bv)*(Row 120 4 (.slice A es.length c) es.length (es.flatMap cu)*(aW es*G)) by ac_rfl)).right⟩
 have HSrt:Hid (E.Pairwise dJ):=hcon.wI.MQ;have HEa:Hid (∀ x ∈ E,(x.key.length<=200/\x.value.length<=20000)/\0<=x.seq/\x.seq<=1000000000):=fun x hx=>by
  have h1:=(hcon.wI.each x hx).1.key;have h2:=(hcon.wI.each x hx).1.val;have h3:=(hcon.wI.each x hx).1.seq;omega
 have hel0:E.length<=1024:=by have:=hcon.bU;omega
 have HEl0:=ah hel0;obtain⟨pl,hplE⟩: ∃ pl,pl=(ab E).length:=⟨_,rfl⟩;rw[<-hplE] at HJo HUn;have HPl:Hid (pl<=20000000):=by unfold Hid;omega
 have HD:=ah hd;have HCon:=ah hcon;have HT:=ah ht;have HK:=ah hk;have HLim:=ah hlim;have HI:=ah hi;have HC:=ah hc;have HA:=ah ha;have HGood:=ah hgood;have HFew:=ah hfew;have HNums:=ah hnums;clear hd hcon ht hk hlim hi hc ha h ho hS hlg hnew hgood hnums hfew hmost hbig himgf hlogf hpl hplE hel0;go_enter Tryz.func19, Tryz.ntmps19;go_upto_region 7 with (first
  | (go_at_call 53;(with_reducible refine HOp.o.mono ?_);rintro e w1 ⟨s,rfl,hs1⟩;have HS1:=ah hs1;clear hs1)
  | (go_at_call 57;(with_reducible refine(HNe.o _ _ _ HS1.o).mono ?_);rintro e w2 ⟨rfl,hs2⟩;have HS2:=ah hs2;clear hs2)
  | (go_at_call 57;(with_reducible refine(HNe.o _ _ _ HS2.o).mono ?_);rintro e w3 ⟨rfl,hs3⟩;have HS3:=ah hs3;clear hs3)
  | (go_at_call 58;(with_reducible refine(xk w0 _ _ HS3.o).mono ?_);rintro e w4 ⟨tb,hr,rfl,hs4⟩;have HS4:=ah hs4;have hmk:=JR w4;clear hs4))
 have hs5:=(HS4.o.vr (P:= Tryz.prog) (k:= 3)).bG (b:=w4.heap.size+1) 113 (ez d s lg tb 0 w4.heap.size 1 false) (by simp);have hs5':Sat w0 (Pt (w4.heap.size+1) 113 (ez d s lg tb 0 w4.heap.size 1 false)*(bY Tryz.prog 3 w4.heap.size 0 (fun _=>none)*(bK tb hr []*(ag s d S*(ae d D*F))))) ((w4.alloc (.map #[] 0)).alloc (.cells (ez d s lg tb 0 w4.heap.size 1 false) 113)):=hs5;obtain⟨W5,hW5⟩: ∃ W5,W5=(w4.alloc (.map #[] 0)).alloc (.cells (ez d s lg tb 0 w4.heap.size 1 false) 113):=⟨_,rfl⟩;rw[<-hW5] at hs5';unfold ez at hW5;rw[<-hW5];obtain⟨mb,hmb⟩: ∃ mb,mb=w4.heap.size:=⟨_,rfl⟩;obtain⟨b,hb⟩: ∃ b,b=w4.heap.size+1:=⟨_,rfl⟩;rw[<-hb, <-hmb] at hs5';rw[<-hb, <-hmb];have HS5:Hid (Sat w0 (ag s d S*(ae d D*(Pt b 113 (ez d s lg tb 0 mb 1 false)*(bY Tryz.prog 3 mb 0 (fun _=>none)*(bK tb hr []*F))))) W5):=hs5'.of (by ac_rfl);clear hs5 hs5' hW5 hb hmb hmk HS1 HS2 HS3 HS4 HOp HNe;have c2:W5.cell? ⟨b,2,none⟩=some (.int .i64 (lg:Int)):=HS5.o.bD.cell 2;go_upto_region 8 with (go_at_call 59;(with_reducible refine(HFr.o _ _ _ HS5.o).mono ?_);rintro e w6 ⟨FA,fc,ts,rfl,ht,hs6⟩;have HTs:=ah ht;have HS6:=ah hs6;clear hs6 ht)
 go_wp2_with (first
  | (go_at_call 61;(with_reducible refine(HJo.o _ _ _ _ _ HTs.o HS6.o).mono ?_);rintro e w7 ⟨JA,jc,rfl,hj1,hj2,hs7⟩;have HJ1:=ah hj1;have HJ2:=ah hj2;have HS7:=ah hs7;clear hj1 hj2 hs7)
  | (go_at_call 60;(with_reducible refine(HUn.o _ _ _ _ HJ1.o HJ2.o HS7.o).mono ?_);rintro e w8 ⟨es,A,c,rfl,hes,hs8⟩;have HES:=ah hes;have HS8:=ah hs8;clear hes hs8))
 have HEl:Hid (es.length=E.length):=by unfold Hid;rw[<-HES.o,List.length_map]
 have hel:es.length<=1024:=by rw[HEl.o];exact HEl0.o
 have HS9:Hid (Sat w0 (bK tb hr []*(Pt b 113 (ez d s lg tb 0 mb 1 false)*(Row 120 4 (.slice A es.length c) es.length (es.flatMap cu)*(aW es*(bY Tryz.prog 3 mb 0 (fun _=>none)*(ag s d S*(ae d D*F))))))) w8):=(HS8.o.of (show _=Row 41 1 (.slice FA ts.length fc) ts.length (ts.map aE)*(ca ts*(bK tb hr []*(Pt b 113 (ez d s lg tb 0 mb 1 false)*(Row 120 4 (.slice A es.length c) es.length (es.flatMap cu)*(aW es*(bY Tryz.prog 3 mb 0 (fun _=>none)*(ag s d S*(ae d D*F)))))))) by ac_rfl)).right.right;clear HS8 HS7 HS6 HS5 HJo HUn HFr c2;go_loopw [57] (fun iv wr=> ∃ (j:Nat) (ms:List Nd) (q:Int),j<=es.length/\iv = .int .i64 (j:Int)/\Hid (ep ms j/\cG ms=E.take j/\q=cX (E.take j)/\Sat w0 (bK tb hr ms*(Pt b 113 (ez d s lg tb q mb 1 false)*(Row 120 4 (.slice A es.length c) es.length (es.flatMap cu)*(aW es*(bY Tryz.prog 3 mb 0 (fun _=>none)*(ag s d S*(ae d D*F))))))) wr)) (fun iv _=>es.length - (intOf iv).toNat)
 case atStart=>exact⟨0,[],0,by omega,rfl,yI 0,rfl,rfl,HS9.o⟩
 case round=>
  obtain⟨j,ms,q,hj,rfl,HD0⟩:=hrel;by_cases hlt:j<es.length
  .obtain⟨lb,lo2,hA,hq⟩:=eh HD0.o.2.2.2.bD.cj (by omega);subst hA;obtain⟨y0,y1,y2,y3⟩:=hq j hlt;have HRi:=ah (gu HD0.o.2.2.2.bW _ (List.getElem_mem hlt));have hmE:es[j].ao ∈ E:=by rw[<-HES.o];exact List.mem_map_of_mem (List.getElem_mem hlt)
   have HLi:=ah (HEa.o _ hmE);have HTk:Hid (E.take (j+1)=E.take j++[es[j].ao]):=by
    unfold Hid;rw[<-HES.o,List.take_add_one,List.getElem?_eq_getElem (by rw[List.length_map];exact hlt),List.getElem_map];rfl
   have HNew:Hid (∀ x ∈ cG ms,dJ x es[j].ao):=fun x hx=>by
    rw[HD0.o.2.1] at hx;have h2:=HSrt.o;rw[<-List.take_append_drop (j+1) E,HTk.o] at h2;have h3:=(List.pairwise_append.1 h2).1;exact(List.pairwise_append.1 h3).2.2 x hx _ (List.mem_singleton_self _)
   have hii:(j:Int)<es.length:=by omega
   clear hq hmE;generalize es[j]=x at*
   obtain⟨⟨kA,kc,kl⟩,⟨vA,vc,vl⟩,eq,dd⟩:=x;replace y0:_=some (Value.slice kA kl.length kc):=y0;replace y1:_=some (Value.slice vA vl.length vc):=y1;replace y2:_=some (Value.int .i64 eq):=y2;replace y3:_=some (Value.bool dd):=y3;replace HLi:Hid ((kl.length<=200/\vl.length<=20000)/\0<=eq/\eq<=1000000000):=HLi;go_upto_region 11 with fail;have hs7:=HD0.o.2.2.2.af 120 #[.slice kA kl.length kc,.slice vA vl.length vc,.int .i64 eq,.bool dd];obtain⟨W7,hW7⟩: ∃ W7,W7=wr.alloc (.cells #[.slice kA kl.length kc,.slice vA vl.length vc,.int .i64 eq,.bool dd] 120):=⟨_,rfl⟩;rw[<-hW7] at hs7;rw[<-hW7];obtain⟨bx,hbx⟩: ∃ bx,bx=wr.heap.size:=⟨_,rfl⟩;rw[<-hbx] at hs7;rw[<-hbx];have HR7:Hid (Rd W7 kA kl/\Rd W7 vA vl):=by rw[hW7];exact⟨aH.alloc HRi.o.1 _,aH.alloc HRi.o.2 _⟩
   clear hW7 hbx y0 y1 y2 y3;have c3:=hs7.bD.cell 3;have x0:=hs7.cell 0;have x1:=hs7.cell 1;have x2:=hs7.cell 2;have x3:=hs7.cell 3;have HSr:=ah hs7;clear hs7;have HPu:Hid (∀ W H,aq No W7 W->Calls Tryz.prog 62 #[.pointer (some ⟨tb,0,none⟩),.agg #[.slice kA kl.length kc,.slice vA vl.length vc,.int .i64 eq,.bool dd],.int .i64 H] W fun x w'=> ∃ ns',x = .returned (.int .i64 0)/\ep ns' (j+1)/\cG ns'=E.take (j+1)/\Sat w0 (Pt bx 120 #[.slice kA kl.length kc,.slice vA vl.length vc,.int .i64 eq,.bool dd]*(bK tb hr ns'*(Pt b 113 (ez d s lg tb q mb 1 false)*(Row 120 4 (.slice (some ⟨lb,lo2,none⟩) es.length c) es.length (es.flatMap cu)*(aW es*(bY Tryz.prog 3 mb 0 (fun _=>none)*(ag s d S*(ae d D*F)))))))) w'):=fun W H hW=>by
    refine(rC tb hr ms j H ⟨(kA,kc,kl),(vA,vc,vl),eq,dd⟩ w0 W _ (HSr.o.new hW).av HD0.o.1 (by omega) ⟨HR7.o.1.new hW,HR7.o.2.new hW⟩ HLi.o.1.1 HLi.o.1.2 (by show eq<=fm;unfold fm;have:=HLi.o;omega) (fun x hx hs=>oD hs (HNew.o x hx))).mono ?_;rintro x w' ⟨ns',rfl,k1,k2,k3⟩;exact⟨ns',rfl,k1,by rw[k2,te HNew.o,HTk.o,HD0.o.2.1],k3.av⟩
   have HH:=ah (fun W=>mP eq HLi.o.2 W);have HDrew:Hid (aq No W7 W7.drew):=(aq.refl No W7).drew;refine wp_region_held_drew (S:=fun w'=>w'.cell? ⟨b,3,none⟩=some (.pointer (some ⟨tb,0,none⟩))/\w'.cell? ⟨bx,0,none⟩=some (.slice kA kl.length kc)/\w'.cell? ⟨bx,1,none⟩=some (.slice vA vl.length vc)/\w'.cell? ⟨bx,2,none⟩=some (.int .i64 eq)/\w'.cell? ⟨bx,3,none⟩=some (.bool dd)) (by kernel_rfl) ⟨(by exact c3),x0,x1,x2,x3⟩ ?_;intro hS0;refine an 0 1 2 3 ?_;refine cm 4 5 ?_;refine cH 6 ?_;refine bR 7 fun K hK=>?_
   go_simp;go_at_call 63;(with_reducible refine(HH.o _).mono ?_);rintro e wx ⟨⟨hh,rfl,hh1,hh2⟩,rfl⟩
   refine hK.out _ _ ⟨(by exact c3),x0,x1,x2,x3⟩ (fun hS0=>?_);clear hK K;refine bR 8 fun K hK=>?_
   go_simp;go_at_call 62;(with_reducible refine(HPu.o _ hh HDrew.o).mono ?_);rintro e w9 ⟨ns2,rfl,n1,n2,hs8⟩;have HN1:=ah n1;have HN2:=ah n2;have HS10:=ah hs8;clear n1 n2 hs8
   refine hK.out _ _ ⟨HS10.o.bD.cell 3,HS10.o.cell 0,HS10.o.cell 1,HS10.o.cell 2,HS10.o.cell 3⟩ (fun hS0=>?_);clear hK K;refine wpAnyH_done (by kernel_rfl) ?_ _;have x2':w9.cell? ⟨bx,2,none⟩=some (.int .i64 eq):=HS10.o.cell 2;have c4':w9.cell? ⟨b,4,none⟩=some (.int .i64 q):=HS10.o.bD.cell 4;have f4':=HS10.o.bD.frozen 4;have X2:=ah x2';have C4:=ah c4';clear c3 x0 x1 x2 x3;go_upto_region 12 with fail;refine qB (z:=10) (S:=fun w'=>w'.cell? ⟨b,4,none⟩=some (.int .i64 q)/\w'.cell? ⟨bx,2,none⟩=some (.int .i64 eq)) (by kernel_rfl) ⟨(by exact C4.o),(by exact X2.o)⟩ ?_;intro hS0;refine gN 0 ?_;refine gN 1 ?_;refine gN 2 ?_;refine gN 3 ?_;refine gN 4 ?_;refine gN 5 ?_;refine gN 6 ?_;refine gN 7 ?_;refine wO 8 fun K hK=>?_
   go_simp;refine hK.out _ _ ⟨(by exact C4.o),(by exact X2.o)⟩ (fun hS0=>?_);clear hK K;refine gN 9 ?_;refine nZ rfl (by kernel_rfl) (by kernel_rfl) (fun K hK=>?_);go_simp;refine hK.out _ _ ?_;clear hK K;have hs11:=((HS10.o.bD).set 4 (.int .i64 (max q eq))).new (aq.refl No _).drew;have HS11:=ah hs11;have HMx:Hid (max q eq=cX (E.take (j+1))):=by unfold Hid;rw[HTk.o,EO, <-HD0.o.2.2.1];rfl
   clear hs11 f4' c4' x2';go_wp2_with fail;go_roundw
   .exact⟨j+1,ns2,max q eq,by omega,by push_cast;rfl,HN1.o,HN2.o,HMx.o,(HS11.o.of (show _=Pt bx 120 #[.slice kA kl.length kc,.slice vA vl.length vc,.int .i64 eq,.bool dd]*(bK tb hr ns2*(Pt b 113 (ez d s lg tb (max q eq) mb 1 false)*(Row 120 4 (.slice (some ⟨lb,lo2,none⟩) es.length c) es.length (es.flatMap cu)*(aW es*(bY Tryz.prog 3 mb 0 (fun _=>none)*(ag s d S*(ae d D*F))))))) by show Pt b 113 (ez d s lg tb (max q eq) mb 1 false)*_=_;ac_rfl)).right⟩
   .simp[intOf];omega
  .have hje:j=es.length:=by omega
   subst hje;have HQ0:Hid (ep ms E.length/\cG ms=E/\q=cX E):=by
    have h1:=HD0.o;rw[List.take_of_length_le (by have:=HEl.o;omega)] at h1;exact⟨by rw[<-HEl.o];exact h1.1,h1.2.1,h1.2.2.1⟩
   have HS12:=ah HD0.o.2.2.2;have hq0:(((cX E).toNat:Nat):Int)=cX E:=by have:=(nC E 0).1;unfold cX;omega
   have HMe:Hid (cR E (cX E).toNat (E.map cT) E.length):=fV.mem HCon.o.wI (fun x hx=>by rw[hq0];exact(nC E 0).2 x hx);have HS13:Hid (Sat w0 (dD b d s ⟨lg,E,(cX E).toNat,fun _=>none,0,1⟩*(ag s d S*(ae d D*F))) wr):=by
    refine Sat.wJ (v:=⟨lg,E,(cX E).toNat,fun _=>none,0,1⟩) (tb:=tb) (hr:=hr) (mb:=mb) (ns:=ms) HQ0.o.1 HQ0.o.2.1 ?_;rw[dW];dsimp only;rw[hq0, <-HQ0.o.2.2];have h1:=HS12.o.of (show _=Row 120 4 (.slice A es.length c) es.length (es.flatMap cu)*(aW es*(Pt b 113 (ez d s lg tb q mb 1 false)*(bK tb hr ms*(bY Tryz.prog 3 mb 0 (fun _=>none)*(ag s d S*(ae d D*F)))))) by ac_rfl);exact h1.right.right
   have c2:wr.cell? ⟨b,2,none⟩=some (.int .i64 (lg:Int)):=HS12.o.av.cell 2;have HS14:Hid (Sat w0 (ag s d S*(ae d D*(dD b d s ⟨lg,E,(cX E).toNat,fun _=>none,0,1⟩*F))) wr):=HS13.o.of (by ac_rfl);clear HS12 HS13 HD0 HQ0 hlt;go_wp2_with (go_at_call 64;(with_reducible refine(HRd.o _ _ _ HS14.o).mono ?_);rintro e w10 ⟨RA,rc,rs,rfl,hrs,hs15⟩;have HRs:=ah hrs;have HS15:=ah hs15;clear hrs hs15);have HRl:Hid (rs.length=bs.length):=by have:=congrArg List.length HRs.o;unfold bT at this;rw[List.length_map,List.length_map] at this;exact this
   have hbl:rs.length<=10000:=by rw[HRl.o];have:=HCon.o.bl;have:=HK.o;omega
   have HS16:Hid (Sat w0 (dD b d s ⟨lg,E,(cX E).toNat,fun _=>none,0,1⟩*(Row 41 1 (.slice RA rs.length rc) rs.length (rs.map aE)*(dM rs*(ag s d S*(ae d D*F))))) w10):=HS15.o.of (by ac_rfl);clear HS14 HS15 c2;go_loopw [92] (fun iv wr=> ∃ (j:Nat),j<=rs.length/\iv = .int .i64 (j:Int)/\Hid (∃ L,cR L ((cX E).toNat+j) (iY E (bs.take j)) (E.length+((bs.take j).map List.length).sum)/\Sat w0 (dD b d s ⟨lg,L,(cX E).toNat+j,fun _=>none,0,1⟩*(Row 41 1 (.slice RA rs.length rc) rs.length (rs.map aE)*(dM rs*(ag s d S*(ae d D*F))))) wr)) (fun iv _=>rs.length - (intOf iv).toNat)
   case atStart=>exact⟨0,by omega,rfl,E,HMe.o,HS16.o⟩
   case round=>
    obtain⟨j,hj,rfl,HD1⟩:=hrel;obtain⟨L,hmL,hsL⟩:=HD1.o;by_cases hlt:j<rs.length
    .have hrow:=hsL.av.ic;obtain⟨lb,lo2,hA,hcell⟩:=hrow (by intro h0;have:=congrArg List.length h0;rw[List.length_map,List.length_nil] at this;omega);subst hA;have y0:=hcell j (by rw[List.length_map];exact hlt);rw[List.getElem_map] at y0;have hjb:j<bs.length:=by rw[<-HRl.o];exact hlt
     have hx2:rs[j].2.2=aJ bs[j]:=by
      have h1:(bT rs)[j]'(by unfold bT;rw[List.length_map];exact hlt)=rs[j].2.2:=by unfold bT;rw[List.getElem_map]
      have h2:(bs.map aJ)[j]'(by rw[List.length_map];exact hjb)=aJ bs[j]:=by rw[List.getElem_map]
      rw[<-h1, <-h2];congr 1<;>exact HRs.o
     have hrd:=fun W (G:SP) (hW:Sat w0 (dM rs*G) W)=>BZ hW (List.getElem_mem hlt)
     have hcp:=tP hsL.bD _ (List.getElem_mem hlt);have hbok:pQ bs[j]:=HCon.o.bats _ (List.getElem_mem hjb);have htk:bs.take (j+1)=bs.take j++[bs[j]]:=by rw[List.take_add_one,List.getElem?_eq_getElem hjb];rfl
     have hsum:((bs.take (j+1)).map List.length).sum<=(bs.map List.length).sum:=by
      have h1:=congrArg (fun l=>(l.map List.length).sum) (List.take_append_drop (j+1) bs);simp only[List.map_append,List.sum_append] at h1;omega
     have hsum2:((bs.take (j+1)).map List.length).sum=((bs.take j).map List.length).sum+bs[j].length:=by rw[htk,List.map_append,List.sum_append];simp
     have hfew2:=HCon.o.bU;have hmap:iY E (bs.take (j+1))=bq bs[j] (iY E (bs.take j)):=by rw[htk,lR]
     generalize bs[j]=cs at*
     generalize rs[j]=x at*
     obtain⟨xa,xc,xl⟩:=x;dsimp only at hx2 hrd hcp;replace y0:_=some (Value.slice xa xl.length xc):=y0;subst hx2;have hlb:=vK hbok;have hkk:=HK.o;have htt:=HT.o;have hqk:(cX E).toNat+bs.length<=10000:=by
      have h1:=wj E 0 (k:=((k - bs.length:Nat):Int)) (by omega) (fun x hx=>by have:=HCon.o.seqs x hx;omega);have h2:=HCon.o.bl;have h3:cX E<=((k - bs.length:Nat):Int):=h1;omega
     have HUl:Hid (∀ W,aq No wr W->Calls Tryz.prog 66 #[.slice xa (aJ cs).length xc] W fun e w'=> ∃ B bd ps,e = .returned (.slice B ps.length bd)/\ps.map Pu.bE=cs/\(∀ W,Rd W xa (aJ cs)->eJ W ps)/\Sat w0 (Row 43 3 (.slice B ps.length bd) ps.length (ps.flatMap dQ)*(dD b d s ⟨lg,L,(cX E).toNat+j,fun _=>none,0,1⟩*(Row 41 1 (.slice (some ⟨lb,lo2,none⟩) rs.length rc) rs.length (rs.map aE)*(dM rs*(ag s d S*(ae d D*F)))))) w'):=fun W hk=>by
      refine(Ak xa xc cs W ((hrd _ _ hsL.bD).new hk) hcp.1 hcp.2 (fun p hp=>(hbok.each p hp).bE) (by omega)).mono ?_;rintro e w' ⟨B,bd,ps,h1,h2,rfl,h3⟩;have hpl:ps.length=cs.length:=by rw[<-h1,List.length_map]
      rw[<-hpl] at h3;refine⟨B,bd,ps,by rw[hpl],h1,h2,?_⟩;exact((hsL.new hk).join h3 (bf (bM _ _ _ _ _) dt)).of (by rw[bX _ aV,aX])
     have hJn:j+1<=bs.length:=by rw[<-HRl.o];exact hlt
     have HDn:Hid (∀ B bd (ps:List Pu) W,ps.map Pu.bE=cs->(∀ W,Rd W xa (aJ cs)->eJ W ps)->Sat w0 (Row 43 3 (.slice B ps.length bd) ps.length (ps.flatMap dQ)*(dD b d s ⟨lg,L,(cX E).toNat+j,fun _=>none,0,1⟩*(Row 41 1 (.slice (some ⟨lb,lo2,none⟩) rs.length rc) rs.length (rs.map aE)*(dM rs*(ag s d S*(ae d D*F)))))) W->Calls Tryz.prog 65 #[.pointer (some ⟨b,0,none⟩),.slice B ps.length bd] W fun e w'=>e = .returned (.tuple #[])/\Hid (∃ L',cR L' ((cX E).toNat+(j+1)) (iY E (bs.take (j+1))) (E.length+((bs.take (j+1)).map List.length).sum)/\Sat w0 (dD b d s ⟨lg,L',(cX E).toNat+(j+1),fun _=>none,0,1⟩*(Row 41 1 (.slice (some ⟨lb,lo2,none⟩) rs.length rc) rs.length (rs.map aE)*(dM rs*(ag s d S*(ae d D*F))))) w')):=fun B bd ps W hps hpr hW=>by
      have hpl:ps.length=cs.length:=by rw[<-hps,List.length_map]
      have hok: ∀ p ∈ ps,je p.bE:=fun p hp=>hbok.each _ (by rw[<-hps];exact List.mem_map_of_mem hp)
      have hLl:=hmL.len;refine(uh b d s ⟨lg,L,(cX E).toNat+j,fun _=>none,0,1⟩ B bd ps (hW.av) (fun W' hW'=>⟨hW'.cj,hpr W' (hrd _ _ hW'.bD)⟩) hok (by omega) (by show L.length<=80000;omega) (fun x hx=>⟨((hmL.each x hx).seq).1,hmL.top x hx⟩) (by show (cX E).toNat+j+1<=_;omega) (by show 0<=_;omega)).mono ?_;rintro e w' ⟨rfl,qs,h1,h2⟩;refine⟨rfl,eE qs (gE ((cX E).toNat+j) cs L),?_,?_⟩
      .rw[hmap,hsum2, <-Nat.add_assoc, <-Nat.add_assoc];exact(hmL.done hbok.each (by omega)).tidy qs
      .rw[hps] at h2;exact h2.av.right
     have hii:(j:Int)<rs.length:=by omega
     have HJn:=ah hJn;clear hmL hsL hrow hcell hrd hcp hbok htk hsum hsum2 hfew2 hmap hlb hkk htt hqk HD1 hjb hJn;go_wp2_with (first
      | (go_at_call 66;(with_reducible refine(HUl.o _ (aq.refl No _)).mono ?_);rintro e w11 ⟨B,bd,ps,rfl,hp1,hp2,hs17⟩;have HP1:=ah hp1;have HP2:=ah hp2;have HS17:=ah hs17;clear hp1 hp2 hs17)
      | (go_at_call 65;(with_reducible refine(HDn.o _ _ _ _ HP1.o HP2.o HS17.o).mono ?_);rintro e w12 ⟨rfl,hs18⟩;have HS18:=ah hs18;clear hs18))
     go_roundw
     .exact⟨j+1,by omega,by push_cast;rfl,HS18.o.out⟩
     .simp[intOf];omega
    .have hje:j=rs.length:=by omega
     subst hje;rw[HRl.o,List.take_length] at hmL;have HML:Hid (cR L ((cX E).toNat+bs.length) (iY E bs) t):=⟨hmL.sort,hmL.each,hmL.top,Nat.le_trans hmL.len HCon.o.bU,hmL.gh,hmL.tells⟩;have HS19:Hid (Sat w0 (ag s d S*(ae d D*(dD b d s ⟨lg,L,(cX E).toNat+bs.length,fun _=>none,0,1⟩*F))) wr):=by
      rw[HRl.o] at hsL;rw[<-HRl.o] at hsL ⊢;exact(hsL.of (show _=Row 41 1 (.slice RA rs.length rc) rs.length (rs.map aE)*(dM rs*(ag s d S*(ae d D*(dD b d s ⟨lg,L,(cX E).toNat+rs.length,fun _=>none,0,1⟩*F)))) by ac_rfl)).right.right
     clear hmL hsL HD1 hlt;go_wp2_with (go_at_call 67;(with_reducible refine(HFi.o _ _ _ HS19.o).mono ?_);rintro e w13 ⟨LA,lc,rfl,hs20⟩;have HS20:=ah hs20;clear hs20);obtain⟨ls,hls⟩: ∃ ls,ls=S.files.map kQ:=⟨_,rfl⟩;obtain⟨N,hN⟩: ∃ N,N=S.files.length:=⟨_,rfl⟩;rw[<-hls] at HS20 HNm;rw[<-hN] at HS20 HNl;rw[<-hN];have hlsN:ls.length=N:=by rw[hls,hN,List.length_map]
     have HlsN:=ah hlsN;obtain⟨S2,D2,rv,hr⟩: ∃ S2 D2 rv,S.switch [] [(i:Int)+2] D=(S2,D2,rv):=⟨_,_,_,rfl⟩;rw[hr] at HSwB;have HRe:=ah hr;have hN3:N<=3:=by rcases HNl.o with ⟨_,h1⟩ | ⟨_,h1⟩<;>omega
     have HS21:Hid (Sat w0 (dD b d s ⟨lg,L,(cX E).toNat+bs.length,fun _=>none,0,1⟩*(ag s d S*(ae d D*(Row 128 3 (.slice LA N lc) N (ls.flatMap dC)*F)))) w13):=HS20.o.of (by ac_rfl);clear HS20 HS19 hls hN hr hlsN HFi;go_loopw [104] (fun iv wr=> ∃ (j:Nat),j<=N/\iv = .int .i64 (j:Int)/\Hid ((j<=2/\Sat w0 (dD b d s ⟨lg,L,(cX E).toNat+bs.length,fun _=>none,0,1⟩*(ag s d S*(ae d D*(Row 128 3 (.slice LA N lc) N (ls.flatMap dC)*F)))) wr)\/(j=3/\rv=0/\y.isSome=true/\Sat w0 (dD b d s ⟨lg,L,(cX E).toNat+bs.length,fun _=>none,0,1⟩*(ag s d S2*(ae d D2*(Row 128 3 (.slice LA N lc) N (ls.flatMap dC)*F)))) wr))) (fun iv _=>N - (intOf iv).toNat)
     case atStart=>exact⟨0,by omega,rfl,.inl ⟨by omega,HS21.o⟩⟩
     case round=>
      obtain⟨j,hj,rfl,HD2⟩:=hrel;by_cases hlt:j<N
      .have hs30:Sat w0 (dD b d s ⟨lg,L,(cX E).toNat+bs.length,fun _=>none,0,1⟩*(ag s d S*(ae d D*(Row 128 3 (.slice LA N lc) N (ls.flatMap dC)*F)))) wr:=by
        rcases HD2.o with h1 | h1
        .exact h1.2
        .omega
       obtain⟨lb,lo2,hA,y0,y1,y2⟩:=BQ hs30.bW.ic (by rw[HlsN.o];exact hlt);subst hA;have hnm:=HNm.o j (by rw[HlsN.o];exact hlt);generalize ls[j]'(by rw[HlsN.o];exact hlt)=x at*
       obtain⟨xn,xf,xb⟩:=x;replace y0:_=some (Value.int .i64 (xn:Int)):=y0;replace y1:_=some (Value.int .i64 (xf:Int)):=y1;replace y2:_=some (Value.int .i64 (xb:Int)):=y2;replace hnm:(j<2/\(xn:Int)<=lg)\/(j=2/\(xn:Int)=(i:Int)+2/\y.isSome=true):=hnm;have cb2:wr.cell? ⟨b,2,none⟩=some (.int .i64 (lg:Int)):=by
        obtain⟨tb2,hr2,mb2,ns2,_,hs0⟩:=hs30.db;exact(hs0.of (dW ..)).cell 2
       have hii:(j:Int)<N:=by omega
       go_upto_region 23 with fail;have hs31:=hs30.af 128 #[.int .i64 (xn:Int),.int .i64 (xf:Int),.int .i64 (xb:Int)];have cb3:=((aq.refl No wr).alloc (.cells #[.int .i64 (xn:Int),.int .i64 (xf:Int),.int .i64 (xb:Int)] 128)).cell cb2 id;obtain⟨W7,hW7⟩: ∃ W7,W7=wr.alloc (.cells #[.int .i64 (xn:Int),.int .i64 (xf:Int),.int .i64 (xb:Int)] 128):=⟨_,rfl⟩;rw[<-hW7] at hs31 cb3;rw[<-hW7];obtain⟨bx,hbx⟩: ∃ bx,bx=wr.heap.size:=⟨_,rfl⟩;rw[<-hbx] at hs31;rw[<-hbx];have x0:=hs31.cell 0;have CB3:=ah cb3;have X0:Hid (W7.cell? ⟨bx,0,none⟩=some (.int .i64 (xn:Int))):=x0;have HS31:=ah hs31;have HNx:=ah hnm;clear hs30 hs31 hW7 hbx cb2 cb3 y0 y1 y2 x0 hnm;refine wp_region_held_drew (S:=fun w'=>w'.cell? ⟨bx,0,none⟩=some (.int .i64 (xn:Int))/\w'.cell? ⟨b,2,none⟩=some (.int .i64 (lg:Int))) (by kernel_rfl) ⟨(by exact X0.o),(by exact CB3.o)⟩ ?_;intro hS0;refine an 0 1 2 3 ?_;refine cm 4 5 ?_;refine cH 6 ?_;refine wpAnyH_done (by kernel_rfl) ?_ _;have X2:W7.drew.cell? ⟨bx,0,none⟩=some (.int .i64 (xn:Int)):=X0.o;have hs35:=HS31.o.new (aq.refl No W7).drew;obtain⟨W9,hW9⟩: ∃ W9,W9=W7.drew:=⟨_,rfl⟩;rw[<-hW9] at hs35 X2;rw[<-hW9];have HX2:=ah X2;have HS32:=ah hs35;clear hW9 hs35 HS31 X0 CB3 X2;rcases HNx.o with ⟨hj2,hle⟩ | ⟨hj2,hxn,hy⟩
       .have h1:¬ (lg:Int)<xn:=by omega
        clear hle;go_wp2_with fail;go_roundw
        .exact⟨j+1,by omega,by push_cast;rfl,.inl ⟨by omega,HS32.o.right⟩⟩
        .simp[intOf];omega
       .have hlgi:=HLg.o;have h1:(lg:Int)<(i:Int)+2:=by omega
        have hlgi2:=ah hlgi;clear hlgi;have x0':W9.cell? ⟨bx,0,none⟩=some (.int .i64 ((i:Int)+2)):=by rw[<-hxn];exact HX2.o
        have hs33:=HS32.o.right.af 3 #[.int .i64 ((i:Int)+2)];have HS33:Hid (Sat w0 (Pt W9.heap.size 3 #[.int .i64 ((i:Int)+2)]*(ag s d S*(ae d D*(dD b d s ⟨lg,L,(cX E).toNat+bs.length,fun _=>none,0,1⟩*(Row 128 3 (.slice (some ⟨lb,lo2,none⟩) N lc) N (ls.flatMap dC)*F))))) (W9.alloc (.cells #[.int .i64 ((i:Int)+2)] 3))):=hs33.of (by ac_rfl);clear hs33;rw[hxn];by_cases h0:rv=0
        .subst h0;go_upto_region 25 with (go_at_call 55;(with_reducible refine(HSwB.o _ _ _ _ HS33.o).mono ?_);rintro e w15 ⟨rfl,hs34⟩;have HS34:=ah hs34;clear hs34)
         go_wp2_with fail;go_roundw
         .exact⟨3,by omega,by first | rfl | (rw[hj2];rfl),.inr ⟨rfl,by first | rfl | trivial,hy,(HS34.o.of (show _=Pt W9.heap.size 3 #[.int .i64 ((i:Int)+2)]*(dD b d s ⟨lg,L,(cX E).toNat+bs.length,fun _=>none,0,1⟩*(ag s d S2*(ae d D2*(Row 128 3 (.slice (some ⟨lb,lo2,none⟩) N lc) N (ls.flatMap dC)*F)))) by ac_rfl)).right⟩⟩
         .simp[intOf];omega
        .have hb0:(rv !=0)=true:=by rw[bne_iff_ne];exact h0
         have H0:=ah h0;clear h0;go_upto_region 25 with (go_at_call 55;(with_reducible refine(HSwB.o _ _ _ _ HS33.o).mono ?_);rintro e w15 ⟨rfl,hs34⟩;have HS34:=ah hs34;clear hs34)
         go_wp2_with fail;go_ret2;unfold KT;rw[<-HSe.o,HRe.o];refine .inr ⟨hy,H0.o,rfl,?_⟩;exact(HS34.o.of (show _=ag s d S2*(Pt W9.heap.size 3 #[.int .i64 ((i:Int)+2)]*(dD b d s ⟨lg,L,(cX E).toNat+bs.length,fun _=>none,0,1⟩*(Row 128 3 (.slice (some ⟨lb,lo2,none⟩) N lc) N (ls.flatMap dC)*(ae d D2*F)))) by ac_rfl)).right.right.right.right
      .have hje:j=N:=by omega
       subst hje;have HD3:=ah HD2.o;clear HD2 hlt;go_wp2_with fail;go_ret2;unfold KT;rw[<-HSe.o,HRe.o];refine .inl ⟨b,s,L,rfl,HML.o,?_⟩;rcases HD3.o with ⟨h1,h2⟩ | ⟨h1,h2,h3,h4⟩
       .rcases HNl.o with ⟨h5,h6⟩ | ⟨h5,h6⟩
        .refine .inl ⟨h5,?_⟩;rw[<-HLg.o];exact(h2.of (show _=Row 128 3 (.slice LA j lc) j (ls.flatMap dC)*(dD b d s ⟨lg,L,(cX E).toNat+bs.length,fun _=>none,0,1⟩*(ag s d S*(ae d D*F))) by ac_rfl)).right
        .omega
       .refine .inr ⟨h3,h2,?_⟩;rw[<-HLg.o];exact(h4.of (show _=Row 128 3 (.slice LA j lc) j (ls.flatMap dC)*(dD b d s ⟨lg,L,(cX E).toNat+bs.length,fun _=>none,0,1⟩*(ag s d S2*(ae d D2*F))) by ac_rfl)).right
end
section
variable {w0 w:World} {F:SP}
def Mc (w0:World) (F:SP) (b d s:Nat) (v:Sd) (n t k:Nat) (D:Dk) (M:List Kv) (olds:Int->Option (List Kv)) (x:Ending) (w':World):Prop:=
 (x = .returned (.int .i64 0)/\ ∃ S' D' v',uE n t (k+1) D' S' v' M olds/\D'.armed<=D.armed/\D'.cells.length=n/\v'.snaps=v.snaps/\v'.next=v.next/\Sat w0 (dD b d s v'*(ag s d S'*(ae d D'*F))) w')\/
 (x = .returned (.int .i64 21)/\D.armed≠0/\ ∃ D',D'.off=true/\D'.cells.length=n/\mS n t (k+1) D' [M]/\Sat w0 (ae d D'*F) w')
theorem Cy (b d s:Nat) (v:Sd) (n t k:Nat) (D:Dk) (S:aN) (M:List Kv) (olds:Int->Option (List Kv))
 (hst:uE n t k D S v M olds) (hk:k<=10000) (ht:t<=1024) (ha:D.armed<=9223372036854775807) (h:Sat w0 (dD b d s v*(ag s d S*(ae d D*F))) w):
 Calls Tryz.prog 35 #[.pointer (some ⟨b,0,none⟩)] w (Mc w0 F b d s v n t k D M olds):=by
 have hmem:=hst.mem;obtain⟨sf,lim,i,E,bs,⟨slot,turn,lo,fa,fb,LF,y,e1,e2,hd⟩,hlog,hcon,hmap,hlim,hi⟩:=hst.BJ;have hy:y=none:=by cases y with | none=>rfl | some z=>cases e2
 subst hy;subst e1;have c7:w.cell? ⟨b,7,none⟩=some (.bool false):=by
  obtain⟨tb,hr,mb,ns,_,hs0⟩:=h.db;exact(hs0.of (dW ..)).cell 7
 have hszM:eW M+400<=aG n*480:=by have:=hcon.siz;rw[hmap] at this;exact this
 have HSw:Hid (Calls Tryz.prog 73 #[.pointer (some ⟨b,0,none⟩)] w fun e w'=> ∃ r:Int,e = .returned (.int .i64 r)/\Hid (BB w0 F b d s v n D lim i E bs (.returned (.int .i64 r)) w')):=by
  refine(Cq b d s v n slot turn D lo fa fb LF sf lim i E bs M t (20000*k+100) hd hmem ht hlog hszM (by omega) (by omega) hst.cnt (by omega) ha h).mono ?_;intro e w' hh;rcases hh with ⟨sl,tu,lo',a',b',D',sf',he,hrest⟩ | ⟨S',D',he,hrest⟩
  .exact⟨0,he,.inl ⟨sl,tu,lo',a',b',D',sf',rfl,hrest⟩⟩
  .exact⟨21,he,.inr ⟨S',D',rfl,hrest⟩⟩
 have HSt:=ah hst;have HCon:=ah hcon;have HMap:=ah hmap;have HLim:=ah hlim;have HI:=ah hi;have HSzM:=ah hszM;have HK:=ah hk;have HLog:=ah hlog;have HMem:=ah hmem;clear hst hcon hmap hlim hi hszM hk hlog hmem hd h ha ht e2;go_enter Tryz.func35, Tryz.ntmps35;go_upto_region 4 with (go_at_call 73;(with_reducible refine HSw.o.mono ?_);rintro e w7 ⟨r,rfl,hsw⟩)
 clear HSw c7;rcases hsw.o with ⟨sl,tu,lo2,a2,b2,D2,sf2,hr0,hd2,hc2,ha2,hs2⟩ | ⟨S2,D2,hr0,ha2,ho2,hcr2,hc2,hl2,hs2⟩
 .injection hr0 with hr0
  injection hr0 with _ hr0
  subst hr0;have HS2:=ah hs2;have HD2:=ah hd2;have HC2:=ah hc2;have HA2:=ah ha2;clear hs2 hd2 hc2 ha2 hsw;go_wp2_with fail;go_ret;refine .inl ⟨rfl,_,D2,{ v with log:=v.log+2 },⟨⟨sf2,lim+2,i+2,dj v.L,[],HD2.o.BJ,?_,qf.fresh HMem.o HSzM.o,jd HMem.o,?_,?_⟩,HMem.o,HSt.o.snaps,(HC2.o _ HSt.o.cnt).mono (by omega),?_⟩,HA2.o,HD2.o.len,rfl,rfl,HS2.o⟩
  .show v.log+2=i+2+1;have:=HLog.o;omega
  .have:=HLim.o;omega
  .have:=HI.o;omega
  .have h1:=HSt.o.bU;show v.seq<=k+1/\v.bU<=k+1/\v.next<=k+1+1;omega
 .injection hr0 with hr0
  injection hr0 with _ hr0
  subst hr0;have HOf:Hid (Calls Tryz.prog 70 #[.pointer (some ⟨b,0,none⟩)] w7 fun x w'=>x = .returned (.int .i64 21)/\Sat w0 (ae d D2*F) w'):=(wB b d s v hs2).mono fun x w' ⟨h1,h2⟩=>⟨h1,h2.right⟩
  have HCr:Hid (mS n t (k+1) D2 [M]):=hcr2.LU (M:=M) (by have:=HLim.o;omega) (by have:=HI.o;omega) (HCon.o.mono (Nat.le_refl _) (by have h1:=HSt.o.bU.1;omega)) ((qf.fresh HMem.o HSzM.o).mono (Nat.le_refl _) (by have h1:=HSt.o.bU.1;omega)) HMap.o (jd HMem.o) ((hc2 _ HSt.o.cnt).mono (by omega)) List.mem_cons_self;have HAr2:=ah ha2;clear hc2 hs2 hcr2 hsw ha2;go_wp2_with (go_at_call 70;(with_reducible refine HOf.o.mono ?_);rintro e w9 ⟨rfl,hs9⟩;have HS11:=ah hs9;clear hs9);go_ret;exact .inr ⟨rfl,HAr2.o,D2,ho2,hl2,HCr.o,HS11.o⟩
end
section
variable {n t k:Nat} {D D':Dk} {S S':aN} {v:Sd} {M:List Kv} {olds:Int->Option (List Kv)} {Ms:List (List Kv)}
theorem pT.mono (h:pT n t k D S Ms) {t' k':Nat} (ht:t<=t') (hk:k<=k'):pT n t' k' D S Ms:=by
 obtain⟨sf,lim,i,E,bs,x,h1,h2,h3,h4,h5,h6⟩:=h;exact⟨sf,lim,i,E,bs,x,h1,h2.mono ht hk,h3,by omega,by omega,h6.mono (by omega)⟩
theorem mS.mono (h:mS n t k D Ms) {t' k':Nat} (ht:t<=t') (hk:k<=k'):mS n t' k' D Ms:=⟨h.1.mono (by omega),fun keep torn bytes=>by
 obtain⟨S',h1,h2⟩:=h.2 keep torn bytes;exact⟨S',h1,h2.mono ht hk⟩⟩
theorem pT.len (h:pT n t k D S Ms):D.cells.length=n/\64<=n/\n<=65536/\D.off=false:=by
 obtain⟨sf,lim,i,E,bs,x,⟨slot,turn,lo,fa,fb,LF,y,e1,e2,hd⟩,_⟩:=h;exact⟨hd.len,hd.big,hd.aD,hd.good.fils.off⟩
theorem uE.len (h:uE n t k D S v M olds):D.cells.length=n/\64<=n/\n<=65536/\D.off=false:=by
 obtain⟨sf,lim,i,E,bs,⟨slot,turn,lo,fa,fb,LF,y,e1,e2,hd⟩,_⟩:=h.BJ;exact⟨hd.len,hd.big,hd.aD,hd.good.fils.off⟩
theorem uE.arm (h:uE n t k D S v M olds) (a:Nat):uE n t k { D with armed:=a } S v M olds:=by
 obtain⟨sf,lim,i,E,bs,⟨slot,turn,lo,fa,fb,LF,y,e1,e2,hd⟩,h2⟩:=h.BJ;exact⟨⟨sf,lim,i,E,bs,⟨slot,turn,lo,fa,fb,LF,y,e1,e2,hd.arm a⟩,h2⟩,h.mem,h.snaps,⟨h.cnt.writes,h.cnt.pend⟩,h.bU⟩
theorem cR.up {L:List aw} {q t t':Nat} {M:List Kv} (h:cR L q M t) (ht:t<=t'):cR L q M t':=⟨h.sort,h.each,h.top,Nat.le_trans h.len ht,h.gh,h.tells⟩
theorem uE.mono (h:uE n t k D S v M olds) {t' k':Nat} (ht:t<=t') (hk:k<=k'):uE n t' k' D S v M olds:=by
 obtain⟨sf,lim,i,E,bs,h1,h2,h3,h4,h5,h6⟩:=h.BJ;have:=h.bU;exact⟨⟨sf,lim,i,E,bs,h1,h2,h3.mono ht (Nat.le_refl _),h4,by omega,by omega⟩,h.mem.up ht,h.snaps,h.cnt.mono (by omega),by omega⟩
theorem uE.again (h:uE n t k D S v M olds) (hk:k<=100000): ∃ S',cP D=(some S',0)/\pT n t (k+1) D S' [M]:=by
 obtain⟨sf,lim,i,E,bs,⟨slot,turn,lo,fa,fb,LF,y,e1,e2,hd⟩,hlog,hcon,hmap,hl,hi⟩:=h.BJ;obtain⟨S',h1,h2⟩:=hd.again (by omega);exact⟨S',h1,sf,lim+1,i,E,bs,_,h2,hcon.mono (Nat.le_refl _) (by have:=h.bU.1;omega),by rw[hmap];exact List.mem_singleton_self _,by omega,by omega,h.cnt.mono (by omega)⟩
end
section
variable {w0 w:World} {F:SP}
def Me (w0:World) (F:SP) (d n t k:Nat) (D:Dk) (Ms:List (List Kv)) (x:Ending) (w':World):Prop:=
 ∃ M ∈ Ms,(∃ b s S' D' v',x = .returned (.tuple #[.pointer (some ⟨b,0,none⟩),.int .i64 0])/\uE n t (k+1) D' S' v' M (fun _=>none)/\D'.armed<=D.armed/\v'.snaps=(fun _=>none)/\v'.next=1/\Sat w0 (dD b d s v'*(ag s d S'*(ae d D'*F))) w')\/
  (x = .returned (.tuple #[.pointer none,.int .i64 21])/\D.armed≠0/\ ∃ D',D'.off=true/\D'.cells.length=n/\mS n t (k+1) D' [M]/\Sat w0 (ae d D'*F) w')
theorem oR {S:aN} {Ms:List (List Kv)} (d n t k:Nat) (D:Dk) (hf:pT n t k D S Ms) (ho:cP D=(some S,0)) (ht:t<=1024) (hk:k<=10000) (ha:D.armed<=9223372036854775807) (h:Sat w0 (ae d D*F) w):
 Calls Tryz.prog 19 #[.pointer (some ⟨d,0,none⟩)] w (Me w0 F d n t k D Ms):=by
 obtain⟨sf,lim,i,E,bs,x,⟨slot,turn,lo,fa,fb,LF,y,e1,e2,hd⟩,hcon,hmap,hl,hi,hc⟩:=hf;subst e1;refine(Jv d n t k D slot turn lo fa fb LF y sf lim i E bs ho hd hcon ht hk hl hi hc ha h).mono ?_;intro e w' hh;have hq0:(((cX E).toNat:Nat):Int)=cX E:=by have:=(nC E 0).1;unfold cX;omega
 have hcon2:qf n t ((cX E).toNat+bs.length) E bs:=⟨hcon.wI,hcon.bats,hcon.bU,hcon.siz,fun x hx=>by
  have h1:x.seq<=cX E:=(nC E 0).2 x hx;omega,by omega⟩
 have hqk:(cX E).toNat+bs.length<=k:=by
  have h2:=hcon.bl;have h1:cX E<=((k - bs.length:Nat):Int):=wj E 0 (by omega) (fun x hx=>by have:=hcon.seqs x hx;omega);omega
 have hst: ∀ (L:List aw) (D':Dk) (S':aN) (sf':Nat->Nat) (lim':Nat),cR L ((cX E).toNat+bs.length) (iY E bs) t->Fa n D' S' sf' lim' i E bs bs.length false->lim'<=4*(k+1)+8->dA D' (20000*(k+1)+100)->uE n t (k+1) D' S' ⟨i+1,L,(cX E).toNat+bs.length,fun _=>none,0,1⟩ (iY E bs) (fun _=>none):=fun L D' S' sf' lim' hm hdk hl' hc'=>
  ⟨⟨sf',lim',i,E,bs,hdk,rfl,hcon2,rfl,hl',by omega⟩,hm,fun j=> .inl ⟨rfl,rfl⟩,hc',by show (cX E).toNat+bs.length<=k+1/\0<=k+1/\1<=k+1+1;omega⟩
 rcases hh with ⟨b,s,L,rfl,hm,hcase⟩ | ⟨hy,hr,rfl,hs⟩
 .refine⟨_,hmap,.inl ?_⟩;rcases hcase with ⟨hy,hs⟩ | ⟨hy,hr,hs⟩
  .have hyn:y=none:=by cases y with | none=>rfl | some z=>cases hy
   subst hyn;exact⟨b,s,_,D,_,rfl,hst L D _ sf lim hm hd.BJ (by omega) (hc.mono (by omega)),Nat.le_refl _,rfl,rfl,hs⟩
  .obtain⟨z,hz⟩: ∃ z,y=some z:=by cases y with | none=>cases hy | some z=>exact⟨z,rfl⟩
   subst hz;have hb:=hd.back (by omega)
   cases hb with
   | ok D1 sf1 e1 h1 c1 r1=>
    rw[e1] at hs;exact⟨b,s,_,D1,_,rfl,hst L D1 _ sf1 (lim+1) hm h1.BJ (by omega) ((c1 _ hc).mono (by omega)),r1,rfl,rfl,hs⟩
   | off ha1 S1 D1 e1 o1 h1 c1 l1=>rw[e1] at hr;exact absurd hr (show ¬ ((21:Int)=0) by decide)
 .obtain⟨z,hz⟩: ∃ z,y=some z:=by cases y with | none=>cases hy | some z=>exact⟨z,rfl⟩
  subst hz;have hb:=hd.back (by omega)
  cases hb with
  | ok D1 sf1 e1 h1 c1 r1=>rw[e1] at hr;exact absurd rfl hr
  | off ha1 S1 D1 e1 o1 h1 c1 l1=>
   rw[e1] at hs ⊢;refine⟨_,hmap,.inr ⟨rfl,ha1,D1,o1,l1,?_,hs⟩⟩;refine h1.LU (by omega) (by omega) (fun m h2 h3=>?_) (fun m h2 h3=>?_) ((c1 _ hc).mono (by omega))
   .rw[List.take_of_length_le (by omega)];exact hcon.mono (Nat.le_refl _) (by omega)
   .rw[List.take_of_length_le (by omega)];exact List.mem_singleton_self _
theorem yn (d n k m slot turn lim:Nat) (D D1:Dk) (sf:Nat->Nat) (hn:64<=n/\n<=65536) (ho:D.off=false) (hl:D.cells.length=n) (hf:fQ D=(D1,0)) (hg:Good D1 ⟨slot,turn,[]⟩ sf lim) (hl1:D1.cells.length=n) (ha:D1.armed=0) (haD:D.armed<=9223372036854775807) (hcD:dA D m) (hc:dA D1 m) (hm:m+2<=20000*k+100) (hk:k<=10000) (hlim:lim+3<=4*k+8)
 (h:Sat w0 (ae d D*F) w):
 Calls Tryz.prog 18 #[.pointer (some ⟨d,0,none⟩)] w fun x w'=>x = .returned (.int .i64 0)/\ ∃ D' S',cP D'=(some S',0)/\pT n 0 k D' S' [[]]/\D'.armed=0/\Sat w0 (ae d D'*F) w':=by
 refine(ED d n m slot turn lim D D1 sf hn ho hl hf hg hl1 ha haD hcD hc (by omega) (by omega) h).mono ?_;rintro x w' ⟨rfl,D',sl,tu,lo,a,b,sf',h1,h2,h3,h4⟩;obtain⟨S',h5,h6⟩:=iC.again (bs:=[]) h1 (by omega);refine⟨rfl,D',S',h5,⟨sf',lim+2+1,2,[],[],_,h6,⟨J1,(fun c hc=>by cases hc),by simp,?_,(fun x hx=>by cases hx),Nat.zero_le _⟩,List.mem_singleton_self _,by omega,by omega,h2.mono (by omega)⟩,h3,h4⟩;show 0+400<=aG n*480;have:=(jP hn.2).1;omega
end
def aY (w0:World) (F:SP) (b d n t k a nx:Nat) (M:List Kv) (olds:Int->Option (List Kv)) (w:World):Prop:=
 ∃ s S v D,uE n t k D S v M olds/\D.armed<=a/\v.next=nx/\Sat w0 (dD b d s v*(ag s d S*(ae d D*F))) w
section
variable {w0 w w':World} {F F':SP} {b d n t k a nx:Nat} {M:List Kv} {olds:Int->Option (List Kv)}
theorem aY.sat (h:aY w0 F b d n t k a nx M olds w):Sat w0 F w:=by
 obtain⟨s,S,v,D,h1,h2,h3,h4⟩:=h;exact h4.right.right.right
theorem aY.map (h:aY w0 F b d n t k a nx M olds w) (f: ∀ G,Sat w0 (G*F) w->Sat w0 (G*F') w'):aY w0 F' b d n t k a nx M olds w':=by
 obtain⟨s,S,v,D,h1,h2,h3,h4⟩:=h;exact⟨s,S,v,D,h1,h2,h3,(f _ (h4.of (show _=dD b d s v*(ag s d S*ae d D)*F by ac_rfl))).of (by ac_rfl)⟩
theorem aY.new (h:aY w0 F b d n t k a nx M olds w) (hk:aq No w w'):aY w0 F b d n t k a nx M olds w':=h.map fun G hG=>hG.new hk
theorem aY.of (h:aY w0 F b d n t k a nx M olds w) (e:F=F'):aY w0 F' b d n t k a nx M olds w:=by subst e;exact h
theorem aY.mono (h:aY w0 F b d n t k a nx M olds w) {t' k':Nat} (ht:t<=t') (hk:k<=k'):aY w0 F b d n t' k' a nx M olds w:=by
 obtain⟨s,S,v,D,h1,h2,h3,h4⟩:=h;exact⟨s,S,v,D,h1.mono ht hk,h2,h3,h4⟩
theorem aY.drop {A:SP} (h:aY w0 (A*F) b d n t k a nx M olds w):aY w0 F b d n t k a nx M olds w:=h.map fun G hG=>hG.av.right
theorem aY.gh (h:aY w0 F b d n t k a nx M olds w):M.Pairwise nH/\M.length<=t/\ ∀ p ∈ M,p.1.length<=200/\p.2.length<=20000:=by
 obtain⟨s,S,v,D,h1,h2,h3,h4⟩:=h;have h5:=h1.mem.wI;refine⟨h1.mem.gh,?_,tB h1.mem⟩;have:=h5.2.2.1;rw[<-h5.2.1,List.length_map];exact this
theorem KI (K:cW) (hk:Rd w K.1 K.2.2) (ht:t<=1024) (h:aY w0 F b d n t k a nx M olds w):
 Calls Tryz.prog 32 #[.pointer (some ⟨b,0,none⟩),.slice K.1 K.2.2.length K.2.1] w fun x w'=> ∃ A c,x = .returned (.tuple #[.slice A ((ba K.2.2 M).getD []).length c,.bool (ba K.2.2 M).isSome])/\aY w0 (Row 5 1 (.slice A ((ba K.2.2 M).getD []).length c) ((ba K.2.2 M).getD []).length (((ba K.2.2 M).getD []).map bv)*F) b d n t k a nx M olds w':=by
 obtain⟨s,S,v,D,h1,h2,h3,h4⟩:=h;have h9:=La b d s v K hk h4 (by have:=h1.mem.len;omega);rw[h1.mem.tells] at h9;refine h9.mono ?_;rintro x w' ⟨A,c,rfl,hs⟩;exact⟨A,c,rfl,s,S,v,D,h1,h2,h3,hs.of (by ac_rfl)⟩
theorem LW (f tt:cW) (aD:Int) (hf:Rd w f.1 f.2.2) (ht':Rd w tt.1 tt.2.2) (ht:t<=1024) (h:aY w0 F b d n t k a nx M olds w):
 Calls Tryz.prog 24 #[.pointer (some ⟨b,0,none⟩),.slice f.1 f.2.2.length f.2.1,.slice tt.1 tt.2.2.length tt.2.1,.int .i64 aD] w fun x w'=> ∃ (es qs:List En) (B:Option Addr) (c:Nat),x = .returned (.slice B qs.length c)/\(∀ q ∈ qs,q ∈ es)/\qs.map (fun q=>cT q.ao)=(dU f.2.2 tt.2.2 M).take aD.toNat/\
  aY w0 (Row 65 2 (.slice B qs.length c) qs.length (qs.flatMap cM)*(aW es*F)) b d n t k a nx M olds w':=by
 obtain⟨s,S,v,D,h1,h2,h3,h4⟩:=h;have h9:=vi b d s v f tt aD hf ht' h4 (by have:=h1.mem.len;omega);rw[h1.mem.view] at h9;refine h9.mono ?_;rintro x w' ⟨es,qs,B,c,rfl,h5,h6,hs⟩;exact⟨es,qs,B,c,rfl,h5,h6,s,S,v,D,h1,h2,h3,hs.of (by ac_rfl)⟩
theorem Gy (ht:t<=1024) (h:aY w0 F b d n t k a nx M olds w):
 Calls Tryz.prog 31 #[.pointer (some ⟨b,0,none⟩)] w fun x w'=>x = .returned (.int .i64 (M.length:Nat))/\aY w0 F b d n t k a nx M olds w':=by
 obtain⟨s,S,v,D,h1,h2,h3,h4⟩:=h;have h9:=Ht b d s v h4 (by have:=h1.mem.len;omega);rw[h1.mem.view] at h9;exact h9.mono fun x w' ⟨h5,h6⟩=>⟨h5,s,S,v,D,h1,h2,h3,h6⟩
theorem MP (h:aY w0 F b d n t k a nx M olds w):Calls Tryz.prog 87 #[.pointer (some ⟨b,0,none⟩)] w fun x w'=>x = .returned (.bool false)/\w=w':=by
 obtain⟨s,S,v,D,h1,h2,h3,h4⟩:=h;exact Jd b d s v h4
def uH (olds:Int->Option (List Kv)) (nx:Nat) (M:List Kv):Int->Option (List Kv):=fun j=>if j=((nx:Nat):Int) then some M else olds j
theorem KB (hk:k<=10000) (h:aY w0 F b d n t k a nx M olds w):
 Calls Tryz.prog 41 #[.pointer (some ⟨b,0,none⟩)] w fun x w'=>x = .returned (.int .i64 (nx:Nat))/\aY w0 F b d n t (k+1) a (nx+1) M (uH olds nx M) w':=by
 obtain⟨s,S,v,D,h1,h2,h3,h4⟩:=h;have hf:=h1.bU;have h9:=I7 b d s v h4 (by omega) (by omega);refine h9.mono ?_;rintro x w' ⟨rfl,hs⟩;subst h3;obtain⟨sf,lim,i,E,bs,q1,q2,q3,q4,q5,q6⟩:=h1.BJ;refine⟨rfl,s,S,{ v with snaps:=fun j=>if j=((v.next:Nat):Int) then some v.seq else v.snaps j,bU:=v.bU+1,next:=v.next+1 },D,⟨⟨sf,lim,i,E,bs,q1,q2,q3,q4,by omega,by omega⟩,h1.mem,fun j=>?_,h1.cnt.mono (by omega),?_⟩,h2,rfl,hs⟩
 .by_cases hj:j=((v.next:Nat):Int)
  .refine .inr ⟨v.seq,M,?_,?_,Nat.le_refl _,h1.mem.gh,fun ky=>h1.mem.tells ky⟩
   .show (if j=((v.next:Nat):Int) then some v.seq else v.snaps j)=_;rw[if_pos hj]
   .unfold uH;rw[if_pos hj]
  .rcases h1.snaps j with ⟨g1,g2⟩ | ⟨q,Mo,g1,g2,g3⟩
   .refine .inl ⟨?_,?_⟩
    .show (if j=((v.next:Nat):Int) then some v.seq else v.snaps j)=_;rw[if_neg hj,g1]
    .unfold uH;rw[if_neg hj,g2]
   .refine .inr ⟨q,Mo,?_,?_,g3⟩
    .show (if j=((v.next:Nat):Int) then some v.seq else v.snaps j)=_;rw[if_neg hj,g1]
    .unfold uH;rw[if_neg hj,g2]
 .show v.seq<=k+1/\v.bU+1<=k+1/\v.next+1<=k+1+1;omega
def ud (olds:Int->Option (List Kv)) (i:Int):Int->Option (List Kv):=fun j=>if j=i then none else olds j
theorem Ml (i:Int) (hi: -9223372036854775808<=i/\i<=9223372036854775807) (h:aY w0 F b d n t k a nx M olds w):
 Calls Tryz.prog 43 #[.pointer (some ⟨b,0,none⟩),.int .i64 i] w fun x w'=>x = .returned (.int .i64 (if (olds i).isSome=true then 0 else 104))/\aY w0 F b d n t k a nx M (ud olds i) w':=by
 obtain⟨s,S,v,D,h1,h2,h3,h4⟩:=h;refine(Jn b d s v i hi h4).mono ?_;rintro x w' ⟨rfl,hs⟩;have he:(v.snaps i).isSome=(olds i).isSome:=by
  rcases h1.snaps i with ⟨g1,g2⟩ | ⟨q,Mo,g1,g2,g3⟩<;>rw[g1,g2]<;>rfl
 rw[he];refine⟨rfl,s,S,{ v with snaps:=fun j=>if j=i then none else v.snaps j },D,⟨h1.BJ,h1.mem,fun j=>?_,h1.cnt,h1.bU⟩,h2,h3,hs⟩;by_cases hj:j=i
 .refine .inl ⟨?_,?_⟩
  .show (if j=i then none else v.snaps j)=none;rw[if_pos hj]
  .unfold ud;rw[if_pos hj]
 .rcases h1.snaps j with ⟨g1,g2⟩ | ⟨q,Mo,g1,g2,g3⟩
  .refine .inl ⟨?_,?_⟩
   .show (if j=i then none else v.snaps j)=none;rw[if_neg hj,g1]
   .unfold ud;rw[if_neg hj,g2]
  .refine .inr ⟨q,Mo,?_,?_,g3⟩
   .show (if j=i then none else v.snaps j)=some q;rw[if_neg hj,g1]
   .unfold ud;rw[if_neg hj,g2]
theorem Il (i:Int) (K:cW) (hi: -9223372036854775808<=i/\i<=9223372036854775807) (hk:Rd w K.1 K.2.2) (ht:t<=1024) (h:aY w0 F b d n t k a nx M olds w) (q:Option (List UInt8)) (er:Int) (hq:(olds i=none/\q=none/\er=104)\/ ∃ Mo,olds i=some Mo/\q=ba K.2.2 Mo/\er=0):
 Calls Tryz.prog 42 #[.pointer (some ⟨b,0,none⟩),.int .i64 i,.slice K.1 K.2.2.length K.2.1] w fun x w'=> ∃ A c,x = .returned (.tuple #[.slice A (q.getD []).length c,.bool q.isSome,.int .i64 er])/\aY w0 (Row 5 1 (.slice A (q.getD []).length c) (q.getD []).length ((q.getD []).map bv)*F) b d n t k a nx M olds w':=by
 obtain⟨s,S,v,D,h1,h2,h3,h4⟩:=h;refine(Fw b d s v i K hi hk h4 (by have:=h1.mem.len;omega) q er ?_).mono ?_
 .rcases h1.snaps i with ⟨g1,g2⟩ | ⟨sq,Mo,g1,g2,g3,g4,g5⟩
  .rcases hq with ⟨q1,q2,q3⟩ | ⟨Mo,q1,q2,q3⟩
   .exact .inl ⟨g1,q2,q3⟩
   .rw[g2] at q1;cases q1
  .rcases hq with ⟨q1,q2,q3⟩ | ⟨Mo2,q1,q2,q3⟩
   .rw[g2] at q1;cases q1
   .rw[g2] at q1;injection q1 with q1
    subst q1;exact .inr ⟨sq,g1,by rw[q2,g5],q3⟩
 .rintro x w' ⟨A,c,rfl,hs⟩;exact⟨A,c,rfl,s,S,v,D,h1,h2,h3,hs.of (by ac_rfl)⟩
theorem FY (A:Option Addr) (c:Nat) (ps:List Pu) (cs:List cJ) (hcs:ps.map Pu.bE=cs) (hk:k<=10000) (ht:t+ps.length<=1024) (h:aY w0 F b d n t k 0 nx M olds w)
 (hb: ∀ W,Sat w0 F W->aH W A (ps.flatMap dQ)/\eJ W ps) (hz: ∀ p ∈ ps,p.key.2.2.length<=1000000000/\p.value.2.2.length<=1000000000) (hc:dB cs=0) (hf:fh n (bq cs M) cs=false):
 Calls Tryz.prog 20 #[.pointer (some ⟨b,0,none⟩),.slice A ps.length c] w fun x w'=>x = .returned (.int .i64 0)/\aY w0 F b d n (t+ps.length) (k+1) 0 nx (bq cs M) olds w':=by
 subst hcs;obtain⟨s,S,v,D,h1,h2,h3,h4⟩:=h;refine(ze b d s v n t k D S M olds A c ps h1 hk ht (by omega) h4 hb hz).mono ?_;rintro x w' (⟨g1,_⟩ | ⟨g1,g2,_⟩ | ⟨g1,g2,rfl,S',D',v',g3,g4,g5,g6,g7,g8⟩ | ⟨_,_,_,g1,_⟩)
 .exact absurd hc g1
 .rw[hf] at g2;cases g2
 .rw[List.length_map] at g3;exact⟨rfl,s,S',v',D',g3,by omega,by omega,g8⟩
 .omega
theorem ME (hk:k<=10000) (ht:t<=1024) (h:aY w0 F b d n t k 0 nx M olds w):
 Calls Tryz.prog 35 #[.pointer (some ⟨b,0,none⟩)] w fun x w'=>x = .returned (.int .i64 0)/\aY w0 F b d n t (k+1) 0 nx M olds w':=by
 obtain⟨s,S,v,D,h1,h2,h3,h4⟩:=h;refine(Cy b d s v n t k D S M olds h1 hk ht (by omega) h4).mono ?_;rintro x w' (⟨rfl,S',D',v',g3,g4,g5,g6,g7,g8⟩ | ⟨_,g1,_⟩)
 .exact⟨rfl,s,S',v',D',g3,by omega,by omega,g8⟩
 .omega
theorem LY (hk:k<=5000) (ht:t<=1024) (h:aY w0 F b d n t k 0 nx M olds w):
 Calls Tryz.prog 19 #[.pointer (some ⟨d,0,none⟩)] w fun x w'=> ∃ b',x = .returned (.tuple #[.pointer (some ⟨b',0,none⟩),.int .i64 0])/\aY w0 F b' d n t (k+2) 0 1 M (fun _=>none) w':=by
 obtain⟨s,S,v,D,h1,h2,h3,h4⟩:=h;obtain⟨S',e1,e2⟩:=h1.again (by omega);refine(oR d n t (k+1) D e2 e1 ht (by omega) (by omega) (h4.right.right)).mono ?_;rintro x w' ⟨M',hM,⟨b',s',S2,D2,v2,rfl,g1,g2,g3,g4,g5⟩ | ⟨_,g1,_⟩⟩
 .rw[List.mem_singleton] at hM;subst hM;exact⟨b',rfl,s',S2,v2,D2,g1,by omega,g4,g5⟩
 .omega
end
section
variable {w0 w w':World} {F F':SP} {b d n t k a nx:Nat} {M:List Kv} {olds:Int->Option (List Kv)}
theorem FX {e:TypeId} {B:Nat} {cs:Array Value} {W:World} (h:Sat w0 (Pt B e cs*F) W) {xs:List Value} (hx:cs.toList=xs):aH W (some ⟨B,0,none⟩) xs:=by
 subst hx;exact aH.jC h.at (fun j hj=>by rw[Array.getElem?_toList.symm,List.getElem?_eq_getElem hj])
theorem aY.al (h:aY w0 F b d n t k a nx M olds w) (o:Obj):aY w0 (Ow w.heap.size o*F) b d n t k a nx M olds (w.alloc o):=h.map fun G hG=>(hG.alloc o).av
theorem dr (x:Int) (w:World):Calls Tryz.prog 29 #[.int .i64 x] w fun e w'=>e = .returned (.int .i64 x)/\w=w':=by
 go_enter Tryz.func29, Tryz.ntmps29;go_wp2_with fail;go_ret;exact⟨rfl,rfl⟩
theorem pM (n:Nat) (h:64<=n/\n<=65536) (hs:Sat w0 F w):
 Calls Tryz.prog 25 #[.int .i64 (n:Int)] w fun e w'=> ∃ d b,e = .returned (.tuple #[.pointer (some ⟨d,0,none⟩),.pointer (some ⟨b,0,none⟩)])/\aY w0 F b d n 0 1 0 1 [] (fun _=>none) w':=by
 have HNew:Hid (Calls Tryz.prog 16 #[.int .i64 (n:Int)] w fun e w'=> ∃ d,e = .returned (.tuple #[.pointer (some ⟨d,0,none⟩),.int .i64 0])/\Sat w0 (ae d (Dk.new n)*F) w'):=(Jg (n:Int) w0 w F hs).mono fun e w' h9=>by
  unfold Fy at h9;rw[if_pos (by omega),Int.toNat_natCast] at h9;exact h9
 have HFo:Hid (∀ W d,Sat w0 (ae d (Dk.new n)*F) W->Calls Tryz.prog 18 #[.pointer (some ⟨d,0,none⟩)] W fun e w'=>e = .returned (.int .i64 0)/\Hid (∃ D' S',cP D'=(some S',0)/\pT n 0 0 D' S' [[]]/\D'.armed=0/\Sat w0 (ae d D'*F) w')):=fun W d hW=>
  yn d n 0 1 1 1 1 (Dk.new n) (fN n) (fun _=>0) h rfl (by unfold Dk.new;simp) (yR (by omega)) (Am (by omega) h.2) Eg yA (by show 0<=_;omega) ⟨Nat.zero_le _,Nat.zero_le _⟩ EZ (by omega) (by omega) (by omega) hW
 have HOp:Hid (∀ W d,(∃ D' S',cP D'=(some S',0)/\pT n 0 0 D' S' [[]]/\D'.armed=0/\Sat w0 (ae d D'*F) W)->Calls Tryz.prog 19 #[.pointer (some ⟨d,0,none⟩)] W fun e w'=> ∃ b,e = .returned (.tuple #[.pointer (some ⟨b,0,none⟩),.int .i64 0])/\aY w0 F b d n 0 1 0 1 [] (fun _=>none) w'):=fun W d ⟨D',S',h1,h2,h3,h4⟩=>by
  refine(oR d n 0 0 D' h2 h1 (by omega) (by omega) (by omega) h4).mono ?_;rintro x w' ⟨M',hM,⟨b',s',S2,D2,v2,rfl,g1,g2,g3,g4,g5⟩ | ⟨_,g1,_⟩⟩
  .rw[List.mem_singleton] at hM;subst hM;exact⟨b',rfl,s',S2,v2,D2,g1,by omega,g4,g5⟩
  .omega
 clear hs h;go_enter Tryz.func25, Tryz.ntmps25;go_wp2_with (first
  | (go_at_call 16;(with_reducible refine HNew.o.mono ?_);rintro e w2 ⟨d,rfl,hs⟩;have HS2:=ah hs;clear hs)
  | (go_at_call 29;(with_reducible refine(dr _ _).mono ?_);rintro e wx ⟨rfl,rfl⟩)
  | (go_at_call 18;(with_reducible refine(HFo.o _ _ HS2.o).mono ?_);rintro e w3 ⟨rfl,HS3⟩)
  | (go_at_call 19;(with_reducible refine(HOp.o _ _ HS3.o).mono ?_);rintro e w4 ⟨b,rfl,hs⟩;have HS4:=ah hs;clear hs))
 go_ret2;exact⟨d,b,rfl,HS4.o⟩
def GH:List cJ:=[⟨[97],[49],false⟩,⟨[98],[50],false⟩]
def H9:List cJ:=[⟨[97],[],true⟩]
def Dx:List Kv:=[([97],[49]),([98],[50])]
def Mn:List Kv:=[([98],[50])]
theorem Kd:bq GH []=Dx:=by decide
theorem Kx:bq H9 Dx=Mn:=by decide
theorem Mv:dB GH=0:=by decide
theorem MF:dB H9=0:=by decide
theorem Mp:fh 1024 (bq GH []) GH=false:=by rw[Kd];decide
theorem Mx:fh 1024 (bq H9 Dx) H9=false:=by rw[Kx];decide
abbrev zz (x:Int):Obj:= .cells #[.int .u8 x] 5 (1,2)
theorem My {k nx:Nat} (hk:k<=1000) (h:aY w0 F b d 1024 0 k 0 nx [] olds w):
 Calls Tryz.prog 20 #[.pointer (some ⟨b,0,none⟩),.slice (some ⟨w.heap.size+1+1+1+1,0,none⟩) 2 2] (((((w.alloc (zz 97)).alloc (zz 49)).alloc (zz 98)).alloc (zz 50)).alloc (.cells #[.slice (some ⟨w.heap.size,0,none⟩) 1 1,.slice (some ⟨w.heap.size+1,0,none⟩) 1 1,.bool false,.slice (some ⟨w.heap.size+1+1,0,none⟩) 1 1,.slice (some ⟨w.heap.size+1+1+1,0,none⟩) 1 1,.bool false] 43)) fun x w'=>x = .returned (.int .i64 0)/\aY w0 F b d 1024 2 (k+1) 0 nx Dx olds w':=by
 have h5:=((((h.al (zz 97)).al (zz 49)).al (zz 98)).al (zz 50)).al (.cells #[.slice (some ⟨w.heap.size,0,none⟩) 1 1,.slice (some ⟨w.heap.size+1,0,none⟩) 1 1,.bool false,.slice (some ⟨w.heap.size+1+1,0,none⟩) 1 1,.slice (some ⟨w.heap.size+1+1+1,0,none⟩) 1 1,.bool false] 43);simp only[World.size_alloc] at h5;generalize w.heap.size=g at*
 refine(FY (some ⟨g+1+1+1+1,0,none⟩) 2 [⟨(some ⟨g,0,none⟩,1,[97]),(some ⟨g+1,0,none⟩,1,[49]),false⟩,⟨(some ⟨g+1+1,0,none⟩,1,[98]),(some ⟨g+1+1+1,0,none⟩,1,[50]),false⟩] GH rfl (by omega) (by show 0+2<=1024;omega) h5 (fun W hW=>⟨FX hW rfl,fun p hp=>?_⟩) (fun p hp=>?_) Mv Mp).mono ?_
 .rcases List.mem_cons.1 hp with rfl | hp
  .exact⟨nG (l:=[97]) hW.gw,nG (l:=[49]) hW.bW⟩
  .rw[List.mem_singleton] at hp;subst hp;exact⟨nG (l:=[98]) hW.bD,nG (l:=[50]) hW.av⟩
 .rcases List.mem_cons.1 hp with rfl | hp
  .exact⟨by show 1<=_;omega,by show 1<=_;omega⟩
  .rw[List.mem_singleton] at hp;subst hp;exact⟨by show 1<=_;omega,by show 1<=_;omega⟩
 .rintro x w' ⟨rfl,h6⟩;rw[Kd] at h6;exact⟨rfl,h6.drop.drop.drop.drop.drop⟩
theorem MN {k nx:Nat} (hk:k<=1000) (h:aY w0 F b d 1024 2 k 0 nx Dx olds w):
 Calls Tryz.prog 20 #[.pointer (some ⟨b,0,none⟩),.slice (some ⟨w.heap.size+1,0,none⟩) 1 1] ((w.alloc (zz 97)).alloc (.cells #[.slice (some ⟨w.heap.size,0,none⟩) 1 1,.slice none 0 0,.bool true] 43)) fun x w'=>x = .returned (.int .i64 0)/\aY w0 F b d 1024 3 (k+1) 0 nx Mn olds w':=by
 have h5:=(h.al (zz 97)).al (.cells #[.slice (some ⟨w.heap.size,0,none⟩) 1 1,.slice none 0 0,.bool true] 43);simp only[World.size_alloc] at h5;generalize w.heap.size=g at*
 refine(FY (some ⟨g+1,0,none⟩) 1 [⟨(some ⟨g,0,none⟩,1,[97]),(none,0,[]),true⟩] H9 rfl (by omega) (by show 2+1<=1024;omega) h5 (fun W hW=>⟨FX hW rfl,fun p hp=>?_⟩) (fun p hp=>?_) MF Mx).mono ?_
 .rw[List.mem_singleton] at hp;subst hp;exact⟨nG (l:=[97]) hW.av,Rd.nil _ _⟩
 .rw[List.mem_singleton] at hp;subst hp;exact⟨by show 1<=_;omega,by show 0<=_;omega⟩
 .rintro x w' ⟨rfl,h6⟩;rw[Kx] at h6;exact⟨rfl,h6.drop.drop⟩
theorem AM {x:UInt8} (hx:ba [x] M=none) (ht:t<=1024) (h:aY w0 F b d n t k a nx M olds w) (g:Int) (hg:g=x.toNat):
 Calls Tryz.prog 32 #[.pointer (some ⟨b,0,none⟩),.slice (some ⟨w.heap.size,0,none⟩) 1 1] (w.alloc (zz g)) fun e w'=> ∃ A c,e = .returned (.tuple #[.slice A 0 c,.bool false])/\aY w0 F b d n t k a nx M olds w':=by
 subst hg;have h5:=h.al (zz x.toNat);refine(KI (some ⟨w.heap.size,0,none⟩,1,[x]) (nG (l:=[x]) h5.sat) ht h5).mono ?_;rintro e w' ⟨A,c,rfl,h6⟩;rw[hx] at h6 ⊢;exact⟨A,c,rfl,h6.drop.drop⟩
theorem wP {x:UInt8} {v:List UInt8} (hx:ba [x] M=some v) (ht:t<=1024) (h:aY w0 F b d n t k a nx M olds w) (g:Int) (hg:g=x.toNat) (m:Nat) (hm:v.length=m):
 Calls Tryz.prog 32 #[.pointer (some ⟨b,0,none⟩),.slice (some ⟨w.heap.size,0,none⟩) 1 1] (w.alloc (zz g)) fun e w'=> ∃ A c,e = .returned (.tuple #[.slice A m c,.bool true])/\aY w0 (Row 5 1 (.slice A v.length c) v.length (v.map bv)*F) b d n t k a nx M olds w':=by
 subst hg;subst hm;have h5:=h.al (zz x.toNat);refine(KI (some ⟨w.heap.size,0,none⟩,1,[x]) (nG (l:=[x]) h5.sat) ht h5).mono ?_;rintro e w' ⟨A,c,rfl,h6⟩;rw[hx] at h6 ⊢;exact⟨A,c,rfl,(h6.map fun G hG=>hG.bD.right:aY w0 _ b d n t k a nx M olds w')⟩
theorem zE {x:UInt8} {v:List UInt8} {Mo:List Kv} (i:Int) (hi: -9223372036854775808<=i/\i<=9223372036854775807) (ho:olds i=some Mo) (hx:ba [x] Mo=some v) (ht:t<=1024) (h:aY w0 F b d n t k a nx M olds w) (g:Int) (hg:g=x.toNat) (m:Nat) (hm:v.length=m):
 Calls Tryz.prog 42 #[.pointer (some ⟨b,0,none⟩),.int .i64 i,.slice (some ⟨w.heap.size,0,none⟩) 1 1] (w.alloc (zz g)) fun e w'=> ∃ A c,e = .returned (.tuple #[.slice A m c,.bool true,.int .i64 0])/\aY w0 (Row 5 1 (.slice A v.length c) v.length (v.map bv)*F) b d n t k a nx M olds w':=by
 subst hg;subst hm;have h5:=h.al (zz x.toNat);refine(Il i (some ⟨w.heap.size,0,none⟩,1,[x]) hi (nG (l:=[x]) h5.sat) ht h5 (some v) 0 (.inr ⟨Mo,ho,hx.symm,rfl⟩)).mono ?_;rintro e w' ⟨A,c,rfl,h6⟩;exact⟨A,c,rfl,(h6.map fun G hG=>hG.bD.right:aY w0 _ b d n t k a nx M olds w')⟩
theorem CG {A:Option Addr} {c:Nat} {v:List UInt8} {W:World} (h:Sat w0 (Row 5 1 (.slice A v.length c) v.length (v.map bv)*F) W):(convert 41 9 (.slice A v.length c)).run Tryz.prog W = .ok (.string ⟨v.toArray⟩) W:=
 Rd.str (P:= Tryz.prog) h.cj 41 9 5 Tryz.underlying41 Tryz.underlying5 Tryz.underlying9 c
theorem zI (W:World) (C:Array Value) (n c g:Nat) (hg:g=W.heap.size):(convert 41 41 (.slice (some ⟨g,0,none⟩) n c)).run Tryz.prog (W.alloc (.cells C 5)) = .ok (.slice (some ⟨g,0,none⟩) n c) (W.alloc (.cells C 5 (C.size,C.size+1))):=by
 subst hg;exact Lib.run_convert_bytes_const (P:= Tryz.prog) W 41 5 C n c Tryz.underlying41 Tryz.underlying5
theorem zb (hs:Sat w0 F w):Calls Tryz.prog 26 #[] w fun e w'=>e = .returned (.bool true)/\Sat w0 F w':=by
 have HB:Hid (Calls Tryz.prog 25 #[.int .i64 1024] w fun e w'=> ∃ d b,e = .returned (.tuple #[.pointer (some ⟨d,0,none⟩),.pointer (some ⟨b,0,none⟩)])/\aY w0 F b d 1024 0 1 0 1 [] (fun _=>none) w'):=pM (w0:=w0) (w:=w) (F:=F) 1024 (by omega) hs;have hcv:=zI;clear hs;go_enter Tryz.func26, Tryz.ntmps26;go_upto_region 4 with (go_at_call 25;(with_reducible refine HB.o.mono ?_);rintro e w2 ⟨d,b,rfl,hs⟩;have HS2:=ah hs;clear hs)
 go_upto_region 6 with (first
  | (go_at_call 20;(with_reducible refine(My (by omega) HS2.o).mono ?_);rintro e w3 ⟨rfl,hs⟩;have HS3:=ah hs;clear hs)
  | (go_at_call 41;(with_reducible refine(KB (by omega) HS3.o).mono ?_);rintro e w4 ⟨rfl,hs⟩;have HS4:=ah hs;clear hs))
 go_upto_region 7 with (go_at_call 20;(with_reducible refine(MN (by omega) HS4.o).mono ?_);rintro e w5 ⟨rfl,hs⟩;have HS5:=ah hs;clear hs)
 go_upto_region 9 with (first
  | (go_at_call 32;(with_reducible refine(AM (x:=97) (by decide) (by omega) HS5.o 97 (by decide)).mono ?_);rintro e w6 ⟨A6,c6,rfl,hs⟩;have HS6:=ah hs;clear hs)
  | (go_at_call 42;(with_reducible refine(zE (x:=97) (v:=[49]) (Mo:=Dx) 1 (by omega) rfl (by decide) (by omega) HS6.o 97 (by decide) 1 rfl).mono ?_);rintro e w7 ⟨A7,c7,rfl,hs⟩;have HS7:=ah hs;clear hs))
 go_upto_region 13 with (first
  | (go_at_call 19;(with_reducible refine(LY (by omega) (by omega) HS7.o).mono ?_);rintro e w8 ⟨b2,rfl,hs⟩;have HS8:=ah hs;clear hs)
  | (go_at_call 29;(with_reducible refine(dr _ _).mono ?_);rintro e wx ⟨rfl,rfl⟩)
  | (go_at_call 32;(with_reducible refine(wP (x:=98) (v:=[50]) (by decide) (by omega) HS8.o 98 (by decide) 1 rfl).mono ?_);rintro e w9 ⟨A9,c9,rfl,hs⟩;have HS9:=ah hs;clear hs))
 obtain⟨SA,hSA⟩: ∃ SA,SA=ByteArray.mk [49].toArray:=⟨_,rfl⟩;obtain⟨SB,hSB⟩: ∃ SB,SB=ByteArray.mk [50].toArray:=⟨_,rfl⟩;have s1:(convert 41 9 (.slice A7 1 c7)).run Tryz.prog w9 = .ok (.string SA) w9:=by rw[hSA];exact CG (v:=[49]) HS9.o.sat.right
 have s2:(convert 41 9 (.slice A9 1 c9)).run Tryz.prog w9 = .ok (.string SB) w9:=by rw[hSB];exact CG (v:=[50]) HS9.o.sat
 have hc1:(SA.toList==[49])=true:=by
  have h9:SA.toList=[49]:=by rw[hSA];simp
  rw[h9];rfl
 have hc2:(SB.toList==[50])=true:=by
  have h9:SB.toList=[50]:=by rw[hSB];simp
  rw[h9];rfl
 clear hSA hSB;go_wp2_with (first
  | (go_at_call 29;(with_reducible refine(dr _ _).mono ?_);rintro e wx ⟨rfl,rfl⟩)
  | (go_at_call 31;(with_reducible refine(Gy (by omega) HS9.o).mono ?_);rintro e w10 ⟨rfl,hs⟩;have HS10:=ah hs;clear hs))
 go_ret;exact⟨rfl,HS10.o.sat.right.right⟩
end
theorem Fx (k:List UInt8):Op.bytesLess k []=false:=by rw[iQ];cases k<;>rfl
theorem JO (k:List UInt8):yp [] [] k=true:=by
 unfold yp;rw[Fx];rfl
theorem wS (M:List Kv):dU [] [] M=M:=by
 unfold dU;rw[List.filter_eq_self];exact fun p _=>JO p.1
section
variable {w0 w w':World} {F F' A:SP} {b d n t k a nx:Nat} {M:List Kv} {olds:Int->Option (List Kv)} {B:Option Addr} {c:Nat} {qs es:List En}
def qd (F:SP) (B:Option Addr) (qs:List En):Prop:= ∀ (w0 w:World),Sat w0 F w->aH w B (qs.flatMap cM)/\jH w qs
theorem qd.left (h:qd F B qs):qd (A*F) B qs:=fun w0 w hs=>h w0 w hs.right
def eV (B:Option Addr) (c:Nat) (qs es:List En):SP:=Row 65 2 (.slice B qs.length c) qs.length (qs.flatMap cM)*aW es
theorem sG (h: ∀ q ∈ qs,q ∈ es):qd (eV B c qs es*F) B qs:=fun w0 w hs=>by
 have h1:=hs.of (aj _ _ _);exact⟨h1.cj,fun q hq=>gu h1.right q (h q hq)⟩
theorem IG (e:En):(cM e).length=2:=rfl
theorem dF (es:List En):(es.flatMap cM).length=es.length*2:=dL IG es
theorem iA (es:List En): ∀ u ∈ es.flatMap cM,u.oneCell'=true:=fun u hu=>by
 obtain⟨e,_,h⟩:=List.mem_flatMap.1 hu;simp[cM] at h;rcases h with rfl | rfl<;>rfl
theorem zA (qs:List En) (m:Nat):az (qs.take m)=(az qs).take m:=by unfold az;rw[List.map_take]
theorem dY (qs fs:List En):az (qs++fs)=az qs++az fs:=by unfold az;rw[List.map_append]
theorem aY.re (h:aY w0 F b d n t k a nx M olds w): ∃ G,Sat w0 (F*G) w/\ ∀ F' w',Sat w0 (F'*G) w'->aY w0 F' b d n t k a nx M olds w':=by
 obtain⟨s,S,v,D,h1,h2,h3,h4⟩:=h;refine⟨dD b d s v*(ag s d S*ae d D),h4.of (by ac_rfl),fun F' w' h'=>⟨s,S,v,D,h1,h2,h3,h'.of (by ac_rfl)⟩⟩
theorem Av (f tt:cW) (aD:Int) (M':List Kv) (hm:(dU f.2.2 tt.2.2 M).take aD.toNat=M') (hf:Rd w f.1 f.2.2) (ht':Rd w tt.1 tt.2.2) (ht:t<=1024) (h:aY w0 F b d n t k a nx M olds w):
 Calls Tryz.prog 24 #[.pointer (some ⟨b,0,none⟩),.slice f.1 f.2.2.length f.2.1,.slice tt.1 tt.2.2.length tt.2.1,.int .i64 aD] w fun x w'=> ∃ (B:Option Addr) (c:Nat) (qs es:List En),x = .returned (.slice B qs.length c)/\az qs=M'/\(∀ q ∈ qs,q ∈ es)/\qs.length<=c/\aY w0 (eV B c qs es*F) b d n t k a nx M olds w':=by
 refine(LW f tt aD hf ht' ht h).mono ?_;rintro x w' ⟨es,qs,B,c,rfl,h1,h2,h3⟩;have h5:qs.length<=c:=by
  obtain⟨A',c',e,h4,_⟩:=h3.sat.aT;injection e with e1 e2 e3
  omega
 exact⟨B,c,qs,es,rfl,h2.trans hm,h1,h5,h3.of (by unfold eV;ac_rfl)⟩
theorem mN {qs fs:List En} {B C:Option Addr} {c c':Nat} (h1:qd F B qs) (h2:qd F C fs) (he:az qs=az fs) (hn:qs.length<=1000000) (h:aY w0 F b d n t k a nx M olds w):
 Calls Tryz.prog 23 #[.slice B qs.length c,.slice C fs.length c'] w fun x w'=>x = .returned (.bool true)/\aY w0 F b d n t k a nx M olds w':=by
 obtain⟨a1,a2⟩:=h1 _ _ h.sat;obtain⟨b1,b2⟩:=h2 _ _ h.sat;refine(uB B C c c' qs fs w a1 a2 b1 b2 hn).mono ?_;rintro x w' ⟨rfl,hk⟩;rw[decide_eq_true he];exact⟨rfl,h.new hk⟩
theorem uP (A B:Option Addr) (c d:Nat) (l m:List UInt8) (w:World) (h1:Rd w A l) (h2:Rd w B m):
 Calls Tryz.prog 36 #[.slice A l.length c,.slice B m.length d] w fun x w'=>x = .returned (.bool (decide (l=m)))/\w=w':=by
 obtain⟨SA,SB,B1,e1,e2,e3,e4⟩:=mg l m;have s1:=cK h1 c;have s2:=cK h2 d;rw[<-e1] at s1;rw[<-e2] at s2;rw[<-e4];clear e1 e2 e4 h1 h2;go_enter Tryz.func36, Tryz.ntmps36;go_wp2_with fail;go_ret;exact⟨rfl,rfl⟩
end
structure nB where
 op:Int
 n:Int
 bA:Option Addr
 bc:Nat
 ps:List Pu
 key:cW
 too:cW
 kA:Option Addr
 kc:Nat
 keep:List Bool
 torn:Int
 cut:Int
def Bg (x:nB):Array Value:= #[.int .i64 x.op,.int .i64 x.n,.slice x.bA x.ps.length x.bc,aO x.key,aO x.too,.slice x.kA x.keep.length x.kc,.int .i64 x.torn,.int .i64 x.cut]
def Pu.cut (p:Pu):Pu:=⟨(p.key.1,p.key.2.1,p.key.2.2.take 140),(p.value.1,p.value.2.1,p.value.2.2.take 200),p.dead⟩
def fk (ps:List Pu):List Pu:=(ps.take 12).map Pu.cut
theorem Gh (ps:List Pu):(fk ps).length<=12:=by unfold fk;rw[List.length_map,List.length_take];omega
theorem KF {w:World} {ps:List Pu} (h:eJ w ps):eJ w (fk ps):=fun p hp=>by
 obtain⟨q,hq,rfl⟩:=List.mem_map.1 hp;have h1:=h q (List.mem_of_mem_take hq);exact⟨h1.1.take 140,h1.2.take 200⟩
theorem ya {ps:List Pu}: ∀ p ∈ fk ps,p.key.2.2.length<=140/\p.value.2.2.length<=200:=fun p hp=>by
 obtain⟨q,hq,rfl⟩:=List.mem_map.1 hp;exact⟨by show (q.key.2.2.take 140).length<=140;rw[List.length_take];omega,by show (q.value.2.2.take 200).length<=200;rw[List.length_take];omega⟩
theorem wV (n:Nat) (hn:n<=1000) (a:cW) (l:List UInt8) (hl:l=a.2.2.take n) (w:World) (hc:a.2.2.length<=a.2.1) (g:Int) (hg:g=n):
 Calls Tryz.prog 80 #[.slice a.1 a.2.2.length a.2.1,.int .i64 g] w fun e w'=>e = .returned (.slice a.1 l.length a.2.1)/\w'=w:=by
 subst hl;by_cases h:n<a.2.2.length
 .have HL:Hid ((a.2.2.take n).length=n):=by unfold Hid;rw[List.length_take];omega
  rw[HL.o];have h2:g<=a.2.1:=by omega
  have h3:g<a.2.2.length:=by omega
  have h4:n<=a.2.1:=by omega
  have h5:0<=g:=by omega
  have h6:g.toNat=n:=by omega
  subst hg;go_enter Tryz.func80, Tryz.ntmps80;go_wp2;go_ret;exact⟨rfl,rfl⟩
 .have HL:Hid ((a.2.2.take n).length=a.2.2.length):=by unfold Hid;rw[List.length_take];omega
  rw[HL.o];have h3:¬ g<a.2.2.length:=by omega
  go_enter Tryz.func80, Tryz.ntmps80;go_wp2;go_ret;exact⟨rfl,rfl⟩
section
variable {w0 w:World} {F:SP}
theorem Ed {A:Option Addr} {ps:List Pu} (h:aH w A (ps.flatMap dQ)):aH w A ((ps.take 12).flatMap dQ):=by
 have e:ps.flatMap dQ=(ps.take 12).flatMap dQ++(ps.drop 12).flatMap dQ:=by rw[<-List.flatMap_append,List.take_append_drop]
 rw[e] at h;have h1:=h.take ((ps.take 12).flatMap dQ).length;rw[List.take_left'] at h1
 .exact h1
 .rfl
theorem wW (x:nB) (h:Sat w0 F w) (hb: ∀ W,Sat w0 F W->aH W x.bA (x.ps.flatMap dQ)) (hbc:x.ps.length<=x.bc/\x.bc<=9223372036854775807) (hsz: ∀ p ∈ x.ps,p.key.2.2.length<=p.key.2.1/\p.value.2.2.length<=p.value.2.1):
 Calls Tryz.prog 44 #[.agg (Bg x)] w fun e w'=> ∃ B c,e = .returned (.agg (Bg { x with bA:=B,bc:=c,ps:=fk x.ps }))/\Sat w0 (Row 43 3 (.slice B (fk x.ps).length c) (fk x.ps).length ((fk x.ps).flatMap dQ)*F) w':=by
 obtain⟨op,n,bA,bc,ps,⟨kyA,kyc,kyl⟩,⟨toA,toc,tol⟩,kpA,kpc,keep,torn,cut⟩:=x;obtain⟨hbc1,hbc2⟩:=hbc;replace hbc1:ps.length<=bc:=hbc1;replace hbc2:bc<=9223372036854775807:=hbc2;have HR:Hid (∀ W,Sat w0 F W->aH W bA ((ps.take 12).flatMap dQ)):=ah fun W hW=>Ed (hb W hW)
 have HZ:=ah hsz;obtain⟨m,hm⟩: ∃ m,m=(ps.take 12).length:=⟨_,rfl⟩;have hm2:m=min 12 ps.length:=by rw[hm,List.length_take]
 have HM:=ah hm;have h1:=h.bG (b:=w.heap.size) 80 #[.int .i64 op,.int .i64 n,.slice bA ps.length bc,.slice kyA kyl.length kyc,.slice toA tol.length toc,.slice kpA keep.length kpc,.int .i64 torn,.int .i64 cut] rfl;have h2:=h1.bG (b:=w.heap.size+1) 80 #[.int .i64 0,.int .i64 0,.slice none 0 0,.slice none 0 0,.slice none 0 0,.slice none 0 0,.int .i64 0,.int .i64 0] (by simp);clear h h1 hb hsz hm;show Calls Tryz.prog 44 #[.agg #[.int .i64 op,.int .i64 n,.slice bA ps.length bc,.slice kyA kyl.length kyc,.slice toA tol.length toc,.slice kpA keep.length kpc,.int .i64 torn,.int .i64 cut]] w _;go_enter Tryz.func44, Tryz.ntmps44;go_upto_region 1 with fail;revert h2;generalize (w.alloc _).alloc _=W;intro h2;generalize w.heap.size+1=R at*
 generalize w.heap.size=E at*
 have HS:=ah h2;obtain⟨j0,hj,hy0,hy1,hy2⟩:=info_parts ve;have Hj:=ah hj;have Hy0:=ah hy0;have Hy1:=ah hy1;have Hy2:=ah hy2;clear hj hy0 hy1 hy2 h2;have HC:Hid (∃ W',(m=ps.length/\W'=W\/12<ps.length/\m=12/\W'=W.setCell ⟨E,2,none⟩ (.slice bA 12 bc))/\Sat w0 (Pt E 80 #[.int .i64 op,.int .i64 n,.slice bA m bc,.slice kyA kyl.length kyc,.slice toA tol.length toc,.slice kpA keep.length kpc,.int .i64 torn,.int .i64 cut]*(Pt R 80 #[.int .i64 0,.int .i64 0,.slice none 0 0,.slice none 0 0,.slice none 0 0,.slice none 0 0,.int .i64 0,.int .i64 0]*F)) W'):=by
  by_cases hl:12<ps.length
  .have hm12:m=12:=by omega
   subst hm12;exact⟨_,.inr ⟨hl,rfl,rfl⟩,HS.o.av.set 2 (.slice bA 12 bc)⟩
  .have hml:m=ps.length:=by omega
   subst hml;exact⟨_,.inl ⟨rfl,rfl⟩,HS.o.av⟩
 obtain⟨W',hW',hs'⟩:=HC.o;have HS2:=ah hs';clear hs' HC;have c2:=HS.o.av.cell 2;have f2:=HS.o.av.frozen 2;rcases hW' with ⟨hml,rfl⟩ | ⟨hl,hm12,rfl⟩
 case' inl=>
  have hgt:¬ (12:Int)<ps.length:=by omega
  go_upto_region 3 with fail;clear hgt c2 f2 HS hml
 case' inr=>
  have hgt:(12:Int)<ps.length:=by omega
  have hcap:(12:Int)<=bc:=by omega
  go_upto_region 3 with fail;clear hgt hcap hl hm12 c2 f2 HS;generalize W.setCell ⟨E,2,none⟩ (.slice bA 12 bc)=W' at*
 all_goals
  have hm12:m<=12:=by omega
  clear hm2 hbc1 hbc2;go_wp2_with fail;go_loopw [3,4] (fun lv iv wr=> ∃ (i c:Nat) (B:Option Addr),i<=m/\iv = .int .i64 (i:Int)/\lv = .slice B i c/\Hid (Sat w0 (Row 43 3 (.slice B i c) i (((ps.take i).map Pu.cut).flatMap dQ)*(Pt E 80 #[.int .i64 op,.int .i64 n,.slice bA m bc,.slice kyA kyl.length kyc,.slice toA tol.length toc,.slice kpA keep.length kpc,.int .i64 torn,.int .i64 cut]*(Pt R 80 #[.int .i64 0,.int .i64 0,.slice none 0 0,.slice none 0 0,.slice none 0 0,.slice none 0 0,.int .i64 0,.int .i64 0]*F))) wr)) (fun _ iv _=>m - (intOf iv).toNat)
  case atStart=>exact⟨0,0,none,by omega,rfl,rfl,HS2.o.aI 43 3⟩
  case round=>
   obtain⟨i,c,B,hi,rfl,rfl,HD⟩:=hrel;by_cases hlt:i<m
   .have hil:i<(ps.take 12).length:=by rw[<-HM.o];exact hlt
    obtain⟨lb,lo,rfl,hq⟩:=gx (HR.o _ HD.o.right.right.right) (by omega);obtain⟨y0,y1,y2⟩:=hq i hil;have hip:i<ps.length:=by rw[List.length_take] at hil;omega
    have hge:(ps.take 12)[i]=ps[i]:=List.getElem_take;rw[hge] at y0 y1 y2;have hz:=HZ.o _ (List.getElem_mem hip);have HTk:Hid ((ps.take (i+1)).map Pu.cut=(ps.take i).map Pu.cut++[ps[i].cut]):=by
     unfold Hid;rw[List.take_add_one,List.getElem?_eq_getElem hip,List.map_append];rfl
    clear hq hge;generalize ps[i]=p at*
    clear hil hip;obtain⟨⟨kA,kc,kl⟩,⟨vA,vc,vl⟩,dd⟩:=p;replace y0:_=some (Value.slice kA kl.length kc):=y0;replace y1:_=some (Value.slice vA vl.length vc):=y1;replace y2:_=some (Value.bool dd):=y2;obtain⟨kl2,hkl2⟩: ∃ kl2,kl2=kl.take 140:=⟨_,rfl⟩;obtain⟨vl2,hvl2⟩: ∃ vl2,vl2=vl.take 200:=⟨_,rfl⟩;have HPc:Hid (Pu.cut ⟨(kA,kc,kl),(vA,vc,vl),dd⟩=⟨(kA,kc,kl2),(vA,vc,vl2),dd⟩):=by rw[hkl2,hvl2];rfl
    have HK2:=ah hkl2;have HV2:=ah hvl2;have HKc:Hid (kl.length<=kc):=hz.1;have HVc:Hid (vl.length<=vc):=hz.2;have hii:(i:Int)<m:=by omega
    have x0:wr.cell? ⟨E,2,none⟩=some (.slice (some ⟨lb,lo,none⟩) m bc):=HD.o.av.cell 2;have hs5:=HD.o.af 43 #[.slice kA kl.length kc,.slice vA vl.length vc,.bool dd];obtain⟨P,hP⟩: ∃ P,P=wr.heap.size:=⟨_,rfl⟩;obtain⟨W5,hW5⟩: ∃ W5,W5=wr.alloc (.cells #[.slice kA kl.length kc,.slice vA vl.length vc,.bool dd] 43):=⟨_,rfl⟩;rw[<-hW5, <-hP] at hs5;have HS5:=ah hs5;clear hlt hz hkl2 hvl2 hs5;go_upto_region 8 with fail;rw[<-hP, <-hW5];clear hP hW5 x0 y0 y1 y2;have c0:=HS5.o.cell 0;have c1:=HS5.o.cell 1;have f0:=HS5.o.frozen 0;have f1:=HS5.o.frozen 1;go_region_law (first
     | (go_simp;go_at_call 80;(with_reducible refine(wV 140 (by omega) (kA,kc,kl) kl2 HK2.o _ HKc.o 140 rfl).mono ?_);rintro x w1 ⟨rfl,rfl⟩)
     | (go_simp;go_at_call 80;(with_reducible refine(wV 200 (by omega) (vA,vc,vl) vl2 HV2.o _ HVc.o 200 rfl).mono ?_);rintro x w1 ⟨rfl,rfl⟩))
    all_goals
     have h5:Sat w0 (Pt P 43 #[.slice kA kl2.length kc,.slice vA vl2.length vc,.bool dd]*(Row 43 3 (.slice B i c) i (((ps.take i).map Pu.cut).flatMap dQ)*(Pt E 80 #[.int .i64 op,.int .i64 n,.slice (some ⟨lb,lo,none⟩) m bc,.slice kyA kyl.length kyc,.slice toA tol.length toc,.slice kpA keep.length kpc,.int .i64 torn,.int .i64 cut]*(Pt R 80 #[.int .i64 0,.int .i64 0,.slice none 0 0,.slice none 0 0,.slice none 0 0,.slice none 0 0,.int .i64 0,.int .i64 0]*F)))) _:=((HS5.o.set 0 (.slice kA kl2.length kc)).set 1 (.slice vA vl2.length vc)).drew;clear f0 f1 c0 c1;revert h5;generalize World.drew (World.setCell (World.setCell W5 _ _) _ _)=w6;intro h5;have c0:=h5.cell 0;have c1:=h5.cell 1;have c2:=h5.cell 2;have HS6:=ah (h5.av.aC (.cells #[.slice kA kl2.length kc,.slice vA vl2.length vc,.bool dd] 43));clear h5;go_wp2_with (at_builtin;refine au rfl (.tmp 34) (.tmp 36) 22 rfl 43 j0 _ 3 56 Tryz.underlying22 Hj.o Hy0.o Hy1.o Hy2.o rfl (by decide) (.slice B i c) i (((ps.take i).map Pu.cut).flatMap dQ) rfl w0 _ (by exact HS6.o) (some ⟨w6.heap.size,0,none⟩) 1 1 [.slice kA kl2.length kc,.slice vA vl2.length vc,.bool dd] rfl (by exact(aL _ _ _)) rfl (by intro u hu;simp at hu;rcases hu with rfl | rfl | rfl<;>rfl) (by unfold maxLen;omega) (by omega) ?_;intro B7 c7 w7 hs7;have HS7:=ah hs7;clear hs7);go_roundw
     .refine⟨i+1,c7,B7,by omega,by push_cast;rfl,rfl,?_⟩;rw[HTk.o,List.flatMap_append,HPc.o];exact HS7.o.av.right
     .simp[intOf];omega
   .have hie:i=m:=by omega
    subst hie;have hge:¬ (i:Int)<i:=by omega
    have hs5:Sat w0 (Pt E 80 #[.int .i64 op,.int .i64 n,.slice B i c,.slice kyA kyl.length kyc,.slice toA tol.length toc,.slice kpA keep.length kpc,.int .i64 torn,.int .i64 cut]*(Pt R 80 #[.int .i64 0,.int .i64 0,.slice none 0 0,.slice none 0 0,.slice none 0 0,.slice none 0 0,.int .i64 0,.int .i64 0]*(Row 43 3 (.slice B i c) i (((ps.take i).map Pu.cut).flatMap dQ)*F))) (wr.setCell ⟨E,2,none⟩ (.slice B i c)):=(HD.o.av.set 2 (.slice B i c)).of (by ac_rfl);have x2:wr.cell? ⟨E,2,none⟩=some (.slice bA i bc):=HD.o.av.cell 2;have g2:=HD.o.av.frozen 2;obtain⟨W5,hW5⟩: ∃ W5,W5=wr.setCell ⟨E,2,none⟩ (.slice B i c):=⟨_,rfl⟩;rw[<-hW5] at hs5;have HS5:=ah hs5;have HPs:Hid (fk ps=(ps.take i).map Pu.cut):=by
     unfold Hid fk;have h9:=HM.o;rw[List.length_take] at h9;by_cases hp:ps.length<=12
     .rw[List.take_of_length_le hp,List.take_of_length_le (by omega)]
     .rw[show i=12 by omega]
    have HLc:Hid ((fk ps).length=i):=by
     unfold Hid fk;rw[List.length_map];exact HM.o.symm
    clear hs5 hlt;go_upto_region 11 with fail;rw[<-hW5];clear hW5 x2 g2;have h5:=HS5.o;have c0:W5.cell? ⟨E,0,none⟩=some (.int .i64 op):=h5.cell 0;have d0:=h5.av.frozen 0;have e0:W5.cell? ⟨R,0,none⟩=some (.int .i64 0):=h5.av.cell 0;have c1:W5.cell? ⟨E,1,none⟩=some (.int .i64 n):=h5.cell 1;have d1:=h5.av.frozen 1;have e1:W5.cell? ⟨R,1,none⟩=some (.int .i64 0):=h5.av.cell 1;have c2:W5.cell? ⟨E,2,none⟩=some (.slice B i c):=h5.cell 2;have d2:=h5.av.frozen 2;have e2:W5.cell? ⟨R,2,none⟩=some (.slice none 0 0):=h5.av.cell 2;have c3:W5.cell? ⟨E,3,none⟩=some (.slice kyA kyl.length kyc):=h5.cell 3;have d3:=h5.av.frozen 3;have e3:W5.cell? ⟨R,3,none⟩=some (.slice none 0 0):=h5.av.cell 3;have c4:W5.cell? ⟨E,4,none⟩=some (.slice toA tol.length toc):=h5.cell 4;have d4:=h5.av.frozen 4;have e4:W5.cell? ⟨R,4,none⟩=some (.slice none 0 0):=h5.av.cell 4;have c5:W5.cell? ⟨E,5,none⟩=some (.slice kpA keep.length kpc):=h5.cell 5;have d5:=h5.av.frozen 5;have e5:W5.cell? ⟨R,5,none⟩=some (.slice none 0 0):=h5.av.cell 5;have c6:W5.cell? ⟨E,6,none⟩=some (.int .i64 torn):=h5.cell 6;have d6:=h5.av.frozen 6;have e6:W5.cell? ⟨R,6,none⟩=some (.int .i64 0):=h5.av.cell 6;have c7:W5.cell? ⟨E,7,none⟩=some (.int .i64 cut):=h5.cell 7;have d7:=h5.av.frozen 7;have e7:W5.cell? ⟨R,7,none⟩=some (.int .i64 0):=h5.av.cell 7;have h6:=((((((((h5.av.set 0 (.int .i64 op)).set 1 (.int .i64 n)).set 2 (.slice B i c)).set 3 (.slice kyA kyl.length kyc)).set 4 (.slice toA tol.length toc)).set 5 (.slice kpA keep.length kpc)).set 6 (.int .i64 torn)).set 7 (.int .i64 cut));simp only[List.setIfInBounds_toArray,List.set_cons_zero,List.set_cons_succ] at h6;have HS6:=ah h6;clear h6 h5;go_wp2_with fail;have h6:=HS6.o;revert h6;generalize World.setCell _ _ _=w4;intro h6;refine bodyPost_ret (results_cell_row (p:=2) (by kernel_rfl) _ _ R 80 _ (0,0) _ rfl h6.at Tryz.underlying80 rfl (by kernel_rfl)) rfl ?_;refine⟨B,c,?_,?_⟩
    .show _=Ending.returned (.agg #[.int .i64 op,.int .i64 n,.slice B (fk ps).length c,.slice kyA kyl.length kyc,.slice toA tol.length toc,.slice kpA keep.length kpc,.int .i64 torn,.int .i64 cut]);rw[HLc.o]
    .show Sat w0 (Row 43 3 (.slice B (fk ps).length c) (fk ps).length ((fk ps).flatMap dQ)*F) w4;rw[HLc.o,HPs.o];exact h6.right.right
end
end Go.Proofs.YtmbaiglpgaoogaaGreat
namespace Go.Proofs.YtmbaiglpgaoogaaGreat
open Go.RowKit Go.ChangeShapes Go.WideShapes Go.Deep Z
def Da (n:Int):Prop:= -9223372036854775808<=n/\n<=9223372036854775807
section
variable {H:Type} {enc:TypeId × Value->H} {P:Program} {w:World} {base:Nat} {spare:Nat->Bool} {held:Bool}
theorem lu {α:Type} [Inhabited α] (f:α->List Value) (good:α->Prop) (k bt:Nat) {t e:TypeId} {fuel:Nat} {cs:List Value} {x:DataW H × List MemPlace} (ht:P.underlying t=some (.slice e)) (hk:P.cellsOf e=k) (hb:P.bytesOf e=bt)
 (hf: ∀ x,(f x).length=k) (hpos:0<k) (each: ∀ n cs x,DataW.trod enc P w base spare held n e cs=some x->cV P e x.1-> ∃ y,cs=f y/\good y)
 (h:DataW.trod enc P w base spare held fuel t cs=some x) (hz:cV P t x.1):
 ∃ (A:Option Addr) (c:Nat) (l:List α),cs=[.slice A l.length c]/\l.length<=c/\c<=maxLen/\aH w A (l.flatMap f)/\l.length*bt<=140737488351232/\ ∀ y ∈ l,good y:=by
 rcases open_slice ht h with ⟨rfl,_⟩ | ⟨a,len,cap,m,n,D,Pl,rfl,hba,hl,hm,hmm,hx,hi⟩
 .exact⟨none,0,[],rfl,Nat.le_refl _,Nat.zero_le _,aH.nil _ _,by simp,by simp⟩
 .have hlm:len<=m:=by rw[hmm];split<;>omega
  subst hx;have hsz:=cV.len hz ht;simp only[List.length_map,List.length_range,hb,tE] at hsz;have each': ∀ i,i<len-> ∃ y:α,good y/\ ∀ j,j<k->w.cell? (a.add (i*k+j))=(f y)[j]?:=fun i hil=>by
   have hD:cV P e (D i):=cV.elem hz ht (List.mem_map.2 ⟨i,List.mem_range.2 hil,rfl⟩);obtain⟨cs',hc,htr⟩:=hi i (by omega);obtain⟨y,hy,hg⟩:=each _ _ _ htr hD;refine⟨y,hg,fun j hj=>?_⟩;obtain⟨_,_,h3⟩:=World.cells?_some hc;rw[hk] at h3;have:=h3 j hj;rw[hy,add_add] at this;exact this
  obtain⟨g,hg⟩:=choose_lt each';refine⟨some a,cap,(List.range len).map g,by simp,by simpa using hl,hm,rF fun j hj=>?_,?_,fun y hy=>?_⟩
  .have hlen:=oB hf ((List.range len).map g);simp only[List.length_map,List.length_range] at hlen;rw[hlen] at hj;have hq:j / k<len:=Nat.div_lt_of_lt_mul (by rw[Nat.mul_comm];exact hj);have hr:j % k<k:=Nat.mod_lt _ hpos;have h1:=(hg (j / k) hq).2 (j % k) hr;have h2:=Hw hf ((List.range len).map g) (j / k) (j % k) (by simpa using hq) hr;have hjk:j / k*k+j % k=j:=Nat.div_add_mod' j k;rw[hjk] at h1 h2;rw[h1];simp only[List.getElem_map,List.getElem_range] at h2;rw[<-h2,List.getElem?_eq_getElem (by rw[hlen];exact hj)]
  .simp only[List.length_map,List.length_range];have:=Nat.mul_le_mul_right bt (show len<=len+(m - len) by omega);omega
  .obtain⟨j,hj,rfl⟩:=List.mem_map.1 hy;exact(hg j (List.mem_range.1 hj)).1
theorem xF {t e:TypeId} {fuel:Nat} {cs:List Value} {x:DataW H × List MemPlace} (ht:P.underlying t=some (.slice e)) (he:P.underlying e=some .bool) (ce:P.cellsOf e=1) (be:P.bytesOf e=1)
 (h:DataW.trod enc P w base spare held fuel t cs=some x) (hz:cV P t x.1):
 ∃ (A:Option Addr) (c:Nat) (l:List Bool),cs=[.slice A l.length c]/\l.length<=c/\c<=maxLen/\aH w A (l.map Value.bool)/\l.length<=140737488351232:=by
 obtain⟨A,c,l,h1,h2,h3,h4,h5,_⟩:=lu (fun b:Bool=>[Value.bool b]) (fun _=>True) 1 1 ht ce be (fun _=>rfl) (by decide) (fun n cs x hx _=>by
  obtain⟨b,hb,_⟩:=DataW.trod_bool he hx;exact⟨b,hb,trivial⟩) h hz
 refine⟨A,c,l,h1,h2,h3,?_,by omega⟩;have e:l.flatMap (fun b:Bool=>[Value.bool b])=l.map Value.bool:=by
  rw[List.flatMap_def];clear h1 h2 h4 h5;rename_i hq;clear hq
  induction l with
  | nil=>rfl
  | cons b l ih=>rw[List.map_cons,List.flatten_cons,ih];rfl
 rwa [e] at h4
end
instance:Inhabited Pu:=⟨⟨(none,0,[]),(none,0,[]),false⟩⟩
instance:Inhabited nB:=⟨⟨0,0,none,0,[],(none,0,[]),(none,0,[]),none,0,[],0,0⟩⟩
def I5 (w:World) (s:cW):Prop:=Rd w s.1 s.2.2/\s.2.2.length<=s.2.1/\s.2.1<=maxLen/\s.2.2.length<=140737488351232
def AY (w:World) (p:Pu):Prop:=I5 w p.key/\I5 w p.value
def vw (w:World) (A:Option Addr) (c:Nat) (l:List Pu):Prop:=l.length<=c/\c<=maxLen/\aH w A (l.flatMap dQ)/\l.length*56<=140737488351232/\ ∀ p ∈ l,AY w p
theorem vw.r {w:World} {A:Option Addr} {c:Nat} {l:List Pu} (h:vw w A c l):eJ w l:=fun p hp=>⟨(h.2.2.2.2 p hp).1.1,(h.2.2.2.2 p hp).2.1⟩
def oT (x:nB):List Value:=[.int .i64 x.op,.int .i64 x.n,.slice x.bA x.ps.length x.bc,aO x.key,aO x.too,.slice x.kA x.keep.length x.kc,.int .i64 x.torn,.int .i64 x.cut]
structure FQ (w:World) (x:nB):Prop where
 op:Da x.op
 n:Da x.n
 batch:vw w x.bA x.bc x.ps
 key:I5 w x.key
 too:I5 w x.too
 keep:aH w x.kA (x.keep.map Value.bool)/\x.keep.length<=x.kc/\x.keep.length<=140737488351232
 torn:Da x.torn
 cut:Da x.cut
section
variable {H:Type} {enc:TypeId × Value->H} {w:World} {base:Nat} {spare:Nat->Bool} {held:Bool}
theorem cV.lY {P:Program} {t tj:TypeId} {fs:Array Field} {parts:List (DataW H)} {j:Nat} {d:DataW H} (h:cV P t (.agg parts)) (hu:P.underlying t=some (.struct fs)) (ht:(fs.toList.map (·.type))[j]?=some tj) (hd:parts[j]?=some d):cV P tj d:=
 fun n hn=>h n (by simp only[DataW.weights,hu];exact DataW.weights_mem_each ht hd n hn)
theorem iR: Tryz.prog.cellsOf 3 = 1:=by kernel_rfl
theorem Ff: Tryz.prog.cellsOf 4 = 1:=by kernel_rfl
theorem oM: Tryz.prog.cellsOf 34 = 1:=by kernel_rfl
theorem eS: Tryz.prog.cellsOf 41 = 1:=by kernel_rfl
theorem jG: Tryz.prog.cellsOf 22 = 1:=by kernel_rfl
theorem Lw {n:Nat} {cs:List Value} {x:DataW H × List MemPlace} (h:DataW.trod enc Tryz.prog w base spare held n 43 cs=some x) (hz:cV Tryz.prog 43 x.1):
 ∃ p:Pu,cs=dQ p/\AY w p:=by
 obtain⟨xs,m,rfl,hx,hl,hxl,hi⟩:=DataW.trod_struct Tryz.underlying43 h;have hl3:cs.length=3:=hl.trans (by kernel_rfl);have hx3:xs.length=3:=hxl
 match cs,hl3,xs,hx3 with
 | [c0,c1,c2],_,[x0,x1,x2],_=>
  have f0:DataW.trod enc Tryz.prog w base spare held m 41 [c0]=some x0:=by have:=hi 0 _ rfl;simpa [eS] using this
  have f1:DataW.trod enc Tryz.prog w base spare held m 41 [c1]=some x1:=by have:=hi 1 _ rfl;simpa [eS] using this
  have f2:DataW.trod enc Tryz.prog w base spare held m 4 [c2]=some x2:=by have:=hi 2 _ rfl;simpa [eS,Ff] using this
  subst hx;have hz0:cV Tryz.prog 41 x0.1:=cV.lY hz Tryz.underlying43 (j:=0) rfl rfl;have hz1:cV Tryz.prog 41 x1.1:=cV.lY hz Tryz.underlying43 (j:=1) rfl rfl;obtain⟨A0,k0,l0,e0,p1,p2,p3,p4,_⟩:=jU Tryz.underlying41 Tryz.underlying5 (by kernel_rfl) (by kernel_rfl) f0 hz0;obtain⟨A1,k1,l1,e1,q1,q2,q3,q4,_⟩:=jU Tryz.underlying41 Tryz.underlying5 (by kernel_rfl) (by kernel_rfl) f1 hz1;obtain⟨a2,e2,_⟩:=DataW.trod_bool Tryz.underlying4 f2;injection e0 with e0 _
  injection e1 with e1 _
  injection e2 with e2 _
  subst e0;subst e1;subst e2;exact⟨⟨(A0,k0,l0),(A1,k1,l1),a2⟩,rfl,⟨p3,p1,p2,p4⟩,q3,q1,q2,q4⟩
theorem EP {fuel:Nat} {cs:List Value} {x:DataW H × List MemPlace} (h:DataW.trod enc Tryz.prog w base spare held fuel 22 cs=some x) (hz:cV Tryz.prog 22 x.1):
 ∃ (A:Option Addr) (c:Nat) (l:List Pu),cs=[.slice A l.length c]/\vw w A c l:=
 lu dQ (AY w) 3 56 Tryz.underlying22 (by kernel_rfl) (by kernel_rfl) (fun _=>rfl) (by decide) (fun n cs x hx hz=>Lw hx hz) h hz
theorem Eo {n:Nat} {cs:List Value} {x:DataW H × List MemPlace} (h:DataW.trod enc Tryz.prog w base spare held n 80 cs=some x) (hz:cV Tryz.prog 80 x.1):
 ∃ o:nB,cs=oT o/\FQ w o:=by
 obtain⟨xs,m,rfl,hx,hl,hxl,hi⟩:=DataW.trod_struct Tryz.underlying80 h;have hl8:cs.length=8:=hl.trans (by kernel_rfl);have hx8:xs.length=8:=hxl
 match cs,hl8,xs,hx8 with
 | [c0,c1,c2,c3,c4,c5,c6,c7],_,[x0,x1,x2,x3,x4,x5,x6,x7],_=>
  have f0:DataW.trod enc Tryz.prog w base spare held m 3 [c0]=some x0:=by have:=hi 0 _ rfl;simpa [iR] using this
  have f1:DataW.trod enc Tryz.prog w base spare held m 3 [c1]=some x1:=by have:=hi 1 _ rfl;simpa [iR] using this
  have f2:DataW.trod enc Tryz.prog w base spare held m 22 [c2]=some x2:=by have:=hi 2 _ rfl;simpa [iR,jG] using this
  have f3:DataW.trod enc Tryz.prog w base spare held m 41 [c3]=some x3:=by have:=hi 3 _ rfl;simpa [iR,jG,eS] using this
  have f4:DataW.trod enc Tryz.prog w base spare held m 41 [c4]=some x4:=by have:=hi 4 _ rfl;simpa [iR,jG,eS] using this
  have f5:DataW.trod enc Tryz.prog w base spare held m 34 [c5]=some x5:=by have:=hi 5 _ rfl;simpa [iR,jG,eS,oM] using this
  have f6:DataW.trod enc Tryz.prog w base spare held m 3 [c6]=some x6:=by have:=hi 6 _ rfl;simpa [iR,jG,eS,oM] using this
  have f7:DataW.trod enc Tryz.prog w base spare held m 3 [c7]=some x7:=by have:=hi 7 _ rfl;simpa [iR,jG,eS,oM] using this
  subst hx;obtain⟨a0,e0,_,w0⟩:=DataW.trod_int Tryz.underlying3 f0;obtain⟨a1,e1,_,w1⟩:=DataW.trod_int Tryz.underlying3 f1;obtain⟨a6,e6,_,w6⟩:=DataW.trod_int Tryz.underlying3 f6;obtain⟨a7,e7,_,w7⟩:=DataW.trod_int Tryz.underlying3 f7;have hz2:cV Tryz.prog 22 x2.1:=cV.lY hz Tryz.underlying80 (j:=2) rfl rfl;have hz3:cV Tryz.prog 41 x3.1:=cV.lY hz Tryz.underlying80 (j:=3) rfl rfl;have hz4:cV Tryz.prog 41 x4.1:=cV.lY hz Tryz.underlying80 (j:=4) rfl rfl;have hz5:cV Tryz.prog 34 x5.1:=cV.lY hz Tryz.underlying80 (j:=5) rfl rfl;obtain⟨A2,k2,l2,e2,p2⟩:=EP f2 hz2;obtain⟨A3,k3,l3,e3,p3,q3,r3,z3,_⟩:=jU Tryz.underlying41 Tryz.underlying5 (by kernel_rfl) (by kernel_rfl) f3 hz3;obtain⟨A4,k4,l4,e4,p4,q4,r4,z4,_⟩:=jU Tryz.underlying41 Tryz.underlying5 (by kernel_rfl) (by kernel_rfl) f4 hz4;obtain⟨A5,k5,l5,e5,p5,q5,r5,z5⟩:=xF Tryz.underlying34 Tryz.underlying4 (by kernel_rfl) (by kernel_rfl) f5 hz5;injection e0 with e0 _
  injection e1 with e1 _
  injection e2 with e2 _
  injection e3 with e3 _
  injection e4 with e4 _
  injection e5 with e5 _
  injection e6 with e6 _
  injection e7 with e7 _
  subst e0;subst e1;subst e2;subst e3;subst e4;subst e5;subst e6;subst e7;exact⟨⟨a0,a1,A2,k2,l2,(A3,k3,l3),(A4,k4,l4),A5,k5,l5,a6,a7⟩,rfl,bounds_i64 w0,bounds_i64 w1,p2,⟨r3,p3,q3,z3⟩,⟨r4,p4,q4,z4⟩,⟨r5,p5,z5⟩,bounds_i64 w6,bounds_i64 w7⟩
def CJ (w:World) (A:Option Addr) (c:Nat) (l:List nB):Prop:=l.length<=c/\c<=maxLen/\aH w A (l.flatMap oT)/\l.length*128<=140737488351232/\ ∀ x ∈ l,FQ w x
theorem vt {fuel:Nat} {cs:List Value} {x:DataW H × List MemPlace} (h:DataW.trod enc Tryz.prog w base spare held fuel 85 cs=some x) (hz:cV Tryz.prog 85 x.1):
 ∃ (A:Option Addr) (c:Nat) (l:List nB),cs=[.slice A l.length c]/\CJ w A c l:=
 lu oT (FQ w) 8 128 Tryz.underlying85 (by kernel_rfl) (by kernel_rfl) (fun _=>rfl) (by decide) (fun n cs x hx hz=>Eo hx hz) h hz
end
end Go.Proofs.YtmbaiglpgaoogaaGreat
