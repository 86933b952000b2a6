/- Joined, as they were built one by one: StRef4 StRm StOld StAskL StAsk StPlL StCrash. -/
import Derived.Deep.CutBlock
import Derived.Test.YtmbaiglpgaoogaaGreatC02
import Derived.Test.YtmbaiglpgaoogaaGreatC08
import Derived.Test.YtmbaiglpgaoogaaGreatC11
import Derived.Test.YtmbaiglpgaoogaaGreatC12
import Derived.Test.YtmbaiglpgaoogaaGreatC22
import Derived.Test.YtmbaiglpgaoogaaGreatC26
import Derived.Test.YtmbaiglpgaoogaaGreatC27
set_option maxHeartbeats 16000000
set_option linter.unusedVariables false
set_option maxRecDepth 100000
namespace Go.Proofs.YtmbaiglpgaoogaaGreat
open Go.RowKit Z
def pz:List Value->List (List Kv)->SP
 | v::vs,M::Ms=>bQ v M*pz vs Ms
 | _,_=>aV
theorem xK (v:Value) (M:List Kv): ∀ (vs:List Value) (Ms:List (List Kv)),vs.length=Ms.length->pz (vs++[v]) (Ms++[M])=bQ v M*pz vs Ms
 | [],[],_=>rfl
 | u::vs,N::Ms,h=>by
  show bQ u N*pz (vs++[v]) (Ms++[M])=bQ v M*(bQ u N*pz vs Ms);rw[xK v M vs Ms (by simpa using h)];exact aK _ _ _
def bu (Ms:List (List Kv)) (gs:List Bool) (i:Int):Option (List Kv):=if 1<=i/\gs[(i - 1).toNat]?=some false then Ms[(i - 1).toNat]? else none
def G8 (g:Nat) (v vo vg:Value) (M:List Kv) (vs:List Value) (Ms:List (List Kv)) (gs:List Bool):SP:=Pt g 36 #[v,vo,vg]*(Row 32 1 vo vs.length vs*(Row 4 1 vg gs.length (gs.map Value.bool)*(bQ v M*pz vs Ms)))
def bm (g:Nat) (M:List Kv) (Ms:List (List Kv)) (gs:List Bool):SP:=fun h=> ∃ v vo vg vs,(vs.length=Ms.length/\gs.length=Ms.length)/\G8 g v vo vg M vs Ms gs h
theorem JM:(Tryz.prog.info? 32).map (fun i=>(i.zero,i.size,i.bytes))=some (some (.agg #[.slice none 0 0]),1,24):=by kernel_rfl
theorem JS:(Tryz.prog.info? 4).map (fun i=>(i.zero,i.size,i.bytes))=some (some (.bool false),1,1):=by kernel_rfl
section
variable {w0 w w':World} {F:SP} {g:Nat} {v vo vg:Value} {M:List Kv} {vs:List Value} {Ms:List (List Kv)} {gs:List Bool}
theorem Sat.yK (h:Sat w0 (bQ v M*F) w): ∃ A n c,v = .slice A n c:=by
 obtain⟨es,_,h1⟩:=h.mp;obtain⟨A,c,h2,_⟩:=h1.mD;exact⟨A,_,c,h2⟩
theorem Sat.zC: ∀ {vs:List Value} {Ms:List (List Kv)} {F:SP} {i:Nat} (hv:i<vs.length) (hM:i<Ms.length),Sat w0 (pz vs Ms*F) w->Sat w0 (bQ vs[i] Ms[i]*(pz vs Ms*F)) w
 | u::vs,N::Ms,F,0,hv,hM,h=>(((h.of (aj _ _ _)).vG).of (by show _=bQ u N*((bQ u N*pz vs Ms)*F);ac_rfl))
 | u::vs,N::Ms,F,i+1,hv,hM,h=>(Sat.zC (F:=bQ u N*F) (i:=i) (by simpa using hv) (by simpa using hM) (h.of (by show (bQ u N*pz vs Ms)*F=_;ac_rfl))).of (by show _=bQ (vs[i]'(by simpa using hv)) (Ms[i]'(by simpa using hM))*((bQ u N*pz vs Ms)*F);ac_rfl)
theorem Sat.KH (h:Sat w0 (bm g M Ms gs*F) w): ∃ v vo vg vs,(vs.length=Ms.length/\gs.length=Ms.length)/\Sat w0 (G8 g v vo vg M vs Ms gs*F) w:=by
 obtain⟨c,x,h1,a,k,h2,h3,⟨v,vo,vg,vs,h4,h5⟩,h8⟩:=h;exact⟨v,vo,vg,vs,h4,⟨c,x,h1,a,k,h2,h3,h5,h8⟩⟩
theorem Sat.xW (h:Sat w0 (G8 g v vo vg M vs Ms gs*F) w) (hv:vs.length=Ms.length) (hg:gs.length=Ms.length):Sat w0 (bm g M Ms gs*F) w:=by
 obtain⟨c,x,h1,a,k,h2,h3,h5,h8⟩:=h;exact⟨c,x,h1,a,k,h2,h3,⟨v,vo,vg,vs,⟨hv,hg⟩,h5⟩,h8⟩
theorem iV (g:Nat) (v vo vg:Value) (M:List Kv) (vs:List Value) (Ms:List (List Kv)) (gs:List Bool) (F:SP):G8 g v vo vg M vs Ms gs*F=Pt g 36 #[v,vo,vg]*(Row 32 1 vo vs.length vs*(Row 4 1 vg gs.length (gs.map Value.bool)*(bQ v M*(pz vs Ms*F)))):=by unfold G8;ac_rfl
theorem Sat.Jp (h:Sat w0 F w):Sat w0 (bm w.heap.size [] [] []*F) (w.alloc (.cells #[.slice none 0 0,.slice none 0 0,.slice none 0 0] 36)):=by
 have h1:=h.af 36 #[.slice none 0 0,.slice none 0 0,.slice none 0 0];generalize w.alloc _=W at*
 have h2:=((h1.wy.aI 4 1).aI 32 1);refine Sat.xW (vs:=[]) (Ms:=[]) (gs:=[]) (v:= .slice none 0 0) (vo:= .slice none 0 0) (vg:= .slice none 0 0) ?_ rfl rfl;rw[iV];have h3:=h2.of (show _=Pt w.heap.size 36 #[.slice none 0 0,.slice none 0 0,.slice none 0 0]*(Row 32 1 (.slice none 0 0) 0 []*(Row 4 1 (.slice none 0 0) 0 []*(bQ (.slice none 0 0) []*F))) by ac_rfl);exact h3.of (by show _=_*(_*(_*(_*(aV*F))));rw[aX];rfl)
theorem oL: ∀ (cs:List cJ) (M:List Kv),(bq cs M).length<=M.length+cs.length
 | [],M=>Nat.le_refl _
 | c::cs,M=>by
  have h1:=oL cs (fG c M);have h2:=yx c M;show (bq cs (fG c M)).length<=_;rw[List.length_cons];omega
theorem Bt {cs:List cJ} {M:List Kv} {i:Nat} (hi:i<cs.length):bq (cs.take (i+1)) M=fG cs[i] (bq (cs.take i) M):=by
 unfold bq;rw[List.take_add_one,List.getElem?_eq_getElem hi,List.foldl_append];rfl
theorem zX (A:Option Addr) (c:Nat) (ps:List Pu) (h:Sat w0 (bm g M Ms gs*F) w) (hb: ∀ W,Sat w0 F W->aH W A (ps.flatMap dQ)/\eJ W ps) (hl:M.length+ps.length<=10000) (hz: ∀ p ∈ ps,p.key.2.2.length<=1000000/\p.value.2.2.length<=1000000):
 Calls Tryz.prog 22 #[.pointer (some ⟨g,0,none⟩),.slice A ps.length c] w fun x w'=>x = .returned (.int .i64 (dB (ps.map Pu.bE):Nat))/\Sat w0 (bm g (if dB (ps.map Pu.bE)=0 then bq (ps.map Pu.bE) M else M) Ms gs*F) w':=by
 obtain⟨v,vo,vg,vs,⟨hv,hg⟩,h1⟩:=h.KH;have HV:=ah (And.intro hv hg);have h2:=h1.of (iV ..);have HF:Hid (∀ W V N,Sat w0 (Pt g 36 #[V,vo,vg]*(bQ V N*(Row 32 1 vo vs.length vs*(Row 4 1 vg gs.length (gs.map Value.bool)*(pz vs Ms*F))))) W->Sat w0 (bm g N Ms gs*F) W):=ah fun W V N hW=>by
  refine Sat.xW (v:=V) (vo:=vo) (vg:=vg) (vs:=vs) ?_ hv hg;rw[iV];exact hW.of (by ac_rfl)
 obtain⟨G,hG⟩: ∃ G,G=Row 32 1 vo vs.length vs*(Row 4 1 vg gs.length (gs.map Value.bool)*(pz vs Ms*F)):=⟨_,rfl⟩;have HB:Hid (∀ W,Sat w0 G W->aH W A (ps.flatMap dQ)/\eJ W ps):=ah fun W hW=>by
  rw[hG] at hW;exact hb W hW.right.right.right
 have HS:Hid (Sat w0 (Pt g 36 #[v,vo,vg]*(bQ v M*G)) w):=ah (h2.of (by rw[hG];ac_rfl));rw[<-hG] at HF;have HZ:=ah hz;have HC:Hid (∀ W,aq No w W->Calls Tryz.prog 74 #[.slice A ps.length c] W fun x w'=>x = .returned (.int .i64 (dB (ps.map Pu.bE):Nat))/\aq No W w'):=ah fun W k=>Bv A c ps W (HB.o _ (HS.o.new k).right.right).1 (by omega) (fun p hp=>⟨by have:=(hz p hp).1;omega,by have:=(hz p hp).2;omega⟩)
 clear h h1 h2 hb hz hv hg hG;obtain⟨q,hq⟩: ∃ q,q=dB (ps.map Pu.bE):=⟨_,rfl⟩;rw[<-hq] at HC ⊢;have HQ:=ah hq;clear hq;go_enter Tryz.func22, Tryz.ntmps22;by_cases hq0:q=0
 .have hqi:((q:Int) !=0)=false:=by rw[hq0];rfl
  have HQ0:=ah hq0;clear hq0;go_wp2_with (go_at_call 74;(with_reducible refine(HC.o _ (aq.refl _ _)).mono ?_);rintro x w1 ⟨rfl,k1⟩;have HS1:=ah (HS.o.new k1);clear k1);go_loopw [6] (fun iv wr=> ∃ (i:Nat),i<=ps.length/\iv = .int .i64 (i:Int)/\Hid (∃ V,Sat w0 (Pt g 36 #[V,vo,vg]*(bQ V (bq ((ps.map Pu.bE).take i) M)*G)) wr)) (fun iv _=>ps.length - (intOf iv).toNat)
  case atStart=>exact⟨0,by omega,rfl,v,HS1.o⟩
  case round=>
   obtain⟨i,hi,rfl,HD⟩:=hrel;by_cases hlt:i<ps.length
   .have hii:(i:Int)<ps.length:=by omega
    obtain⟨V,hs⟩:=HD.o;have hsr:=hs.drew;obtain⟨lb,lo,rfl,hq⟩:=gx (HB.o _ hsr.right.right).1 (by omega);have HX:Hid (∀ W,Sat w0 G W->W.cell? ⟨lb,lo+i*3,none⟩=some (aO ps[i].key)/\W.cell? ⟨lb,lo+i*3+1,none⟩=some (aO ps[i].value)/\W.cell? ⟨lb,lo+i*3+2,none⟩=some (.bool ps[i].dead)):=ah fun W hW=>by
     obtain⟨b',o',e,hq⟩:=gx (HB.o _ hW).1 (by omega);injection e with e
     injection e with e1 e2
     subst e1;subst e2;exact hq i hlt
    have HPi:Hid (∀ W,Sat w0 G W->MX W ps[i]):=ah fun W hW=>(HB.o W hW).2 _ (List.getElem_mem hlt)
    have HZi:=ah (HZ.o _ (List.getElem_mem hlt));have HN:Hid (bq ((ps.map Pu.bE).take (i+1)) M=fG ps[i].bE (bq ((ps.map Pu.bE).take i) M)):=ah (by
     rw[Bt (by rw[List.length_map];exact hlt),List.getElem_map])
    have HLn:Hid ((bq ((ps.map Pu.bE).take i) M).length<=10000):=ah (by
     have h1:=oL ((ps.map Pu.bE).take i) M;rw[List.length_take,List.length_map] at h1;omega)
    generalize ps[i]=p at*
    have HSr:=ah hsr;clear hq hs hsr;go_upto_region 7 with fail;obtain⟨⟨kA,kc,kl⟩,⟨vA,vc,vl⟩,dd⟩:=p;have HY:Hid (∀ W,Sat w0 G W->W.cell? ⟨lb,lo+i*3,none⟩=some (.slice kA kl.length kc)/\W.cell? ⟨lb,lo+i*3+1,none⟩=some (.slice vA vl.length vc)/\W.cell? ⟨lb,lo+i*3+2,none⟩=some (.bool dd)):=HX;have HPut:Hid (Calls Tryz.prog 75 #[.pointer (some ⟨g,0,none⟩),.agg #[.slice kA kl.length kc,.slice vA vl.length vc,.bool dd]] wr.drew fun e w'=>e = .returned (.tuple #[])/\ ∃ V',Sat w0 (Pt g 36 #[V',vo,vg]*(bQ V' (fG ⟨kl,vl,dd⟩ (bq ((ps.map Pu.bE).take i) M))*G)) w'):=ah ((Eb g 36 #[V,vo,vg] V _ ⟨(kA,kc,kl),(vA,vc,vl),dd⟩ rfl HSr.o HLn.o HPi.o HZi.o).mono (by
     rintro e w' ⟨rfl,V',hs⟩;exact⟨rfl,V',hs⟩))
    clear HX HPi HZi;refine wp_region_held_drew (S:=fun w'=>w'.cell? ⟨lb,lo+i*3,none⟩=some (.slice kA kl.length kc)/\w'.cell? ⟨lb,lo+i*3+1,none⟩=some (.slice vA vl.length vc)/\w'.cell? ⟨lb,lo+i*3+2,none⟩=some (.bool dd)) (by kernel_rfl) (HY.o _ HSr.o.right.right) ?_;intro hS0;refine an 0 1 2 3 ?_;refine cm 4 5 ?_;refine cH 6 ?_;refine bR 7 fun K hK=>?_
    go_simp;go_at_call 75;(with_reducible refine HPut.o.mono ?_);rintro x w7 ⟨rfl,V7,hs7⟩;have HS7:=ah hs7;clear hs7
    refine hK.out _ _ (HY.o _ HS7.o.right.right) (fun hS0=>?_);clear hK K;refine wpAnyH_done (by kernel_rfl) ?_ _;go_wp2_with fail;go_roundw
    .exact⟨i+1,by omega,by push_cast;rfl,V7,by rw[HN.o];exact HS7.o⟩
    .simp[intOf];omega
   .have hie:i=ps.length:=by omega
    have HT:Hid (∃ V,Sat w0 (Pt g 36 #[V,vo,vg]*(bQ V (bq (ps.map Pu.bE) M)*G)) wr):=ah (by
     have h1:=HD.o;rw[hie,List.take_of_length_le (by rw[List.length_map];exact Nat.le_refl _)] at h1;exact h1)
    have hii:¬ (i:Int)<ps.length:=by omega
    clear hlt hie;go_wp2_with fail;go_ret;refine⟨rfl,?_⟩
    try rw[if_pos HQ0.o]
    obtain⟨V,hs⟩:=HT.o;exact HF.o _ _ _ hs
 .have hqi:((q:Int) !=0)=true:=by rw[bne_iff_ne];omega
  go_wp2_with (go_at_call 74;(with_reducible refine(HC.o _ (aq.refl _ _)).mono ?_);rintro x w1 ⟨rfl,k1⟩;have HS1:=ah (HS.o.new k1);clear k1);go_ret;refine⟨rfl,?_⟩
  try rw[if_neg hq0]
  exact HF.o _ _ _ HS1.o
theorem Eh (h:Sat w0 (bm g M Ms gs*F) w) (hl:M.length<=10000) (hn:Ms.length<=10000):
 Calls Tryz.prog 84 #[.pointer (some ⟨g,0,none⟩)] w fun x w'=>x = .returned (.int .i64 (Ms.length+1:Nat))/\Sat w0 (bm g M (Ms++[M]) (gs++[false])*F) w':=by
 obtain⟨v,vo,vg,vs,⟨hv,hg⟩,h1⟩:=h.KH;have h2:=h1.of (iV ..);obtain⟨oA,oc,rfl,ho1,ho2⟩:=h2.right.aT;obtain⟨gA,gc,rfl,hg1,hg2⟩:=h2.right.right.aT;obtain⟨j0,hj,hy0,hy1,hy2⟩:=info_parts JM;obtain⟨j1,hj1,hz0,hz1,hz2⟩:=info_parts JS;have Hj:=ah hj;have Hy0:=ah hy0;have Hy1:=ah hy1;have Hy2:=ah hy2;have Hj1:=ah hj1;have Hz0:=ah hz0;have Hz1:=ah hz1;have Hz2:=ah hz2;have HV:=ah (And.intro hv hg);have HS:=ah h2.drew;have hvn:vs.length<=10000:=by omega
 have hgn:gs.length<=10000:=by omega
 clear h h1 h2 hj hy0 hy1 hy2 hj1 hz0 hz1 hz2 ho1 ho2 hg1 hg2 hv hg hn;go_enter Tryz.func84, Tryz.ntmps84;go_upto_region 1 with fail;refine qB (z:=14) (S:=fun w'=>w'.cell? ⟨g,0,none⟩=some v/\w'.cell? ⟨g,1,none⟩=some (.slice oA vs.length oc)) (by kernel_rfl) ⟨HS.o.cell 0,HS.o.cell 1⟩ ?_;intro hS0;refine gN 0 ?_;refine gN 1 ?_;refine gN 2 ?_;refine gN 3 ?_;refine gN 4 ?_;refine gN 5 ?_;refine gN 6 ?_;refine gN 7 ?_;refine gN 8 ?_;refine wO 9 fun K hK=>?_
 go_simp;go_at_call 28;refine(tU (HS.o.bW) (by omega)).mono ?_;rintro x w9 ⟨v9,rfl,hs9⟩;have HS9:=ah hs9;have HO9:Hid (v9.oneCell'=true):=ah (by obtain⟨_,_,h0⟩:=HS9.o.mp;obtain⟨_,_,h1,_⟩:=h0.mD;rw[h1];rfl);clear hs9
 refine hK.out _ _ ⟨HS9.o.bD.cell 0,HS9.o.bD.cell 1⟩ (fun hS0=>?_);clear hK K;refine wO 10 fun K hK=>?_
 go_simp;have HS10:=ah (HS9.o.aC (.cells #[v9] 32));refine hK.out _ _ ⟨HS10.o.bD.cell 0,HS10.o.bD.cell 1⟩ (fun hS0=>?_);clear hK K;refine wO 11 fun K hK=>?_
 refine aQ rfl (.tmp 7) (.tmp 13) 33 rfl 32 j0 _ 1 24 Tryz.underlying33 Hj.o Hy0.o Hy1.o Hy2.o rfl (by decide) (.slice oA vs.length oc) vs.length vs rfl w0 _ (by exact HS10.o.of (show _=Row 32 1 (.slice oA vs.length oc) vs.length vs*(bQ v9 M*(bQ v M*(Pt g 36 #[v,.slice oA vs.length oc,.slice gA gs.length gc]*(Row 4 1 (.slice gA gs.length gc) gs.length (gs.map Value.bool)*(pz vs Ms*F))))) by ac_rfl)) (some ⟨w9.heap.size,0,none⟩) 1 1 [v9] rfl (by exact(aL _ _ _)) rfl (by intro u hu;rw[List.mem_singleton.1 hu];exact HO9.o) (by unfold maxLen;omega) (by omega) ?_;intro A11 c11 w11 hs11;have HS11:=ah hs11;have f11:=hs11.bW.frozen 1;have x11:=hs11.bW.cell 1;clear hs11;refine hK.out _ _ ⟨HS11.o.bW.cell 0,HS11.o.bW.cell 1⟩ (fun hS0=>?_);clear hK K
 try simp only[Act.put,jt,jA,jy]
 refine wO 12 fun K hK=>?_
 go_simp;refine hK.out _ _ ⟨HS11.o.bW.cell 0,HS11.o.bW.cell 1⟩ (fun hS0=>?_);clear hK K;refine gN 13 ?_;refine nZ rfl (by kernel_rfl) (by kernel_rfl) (fun K hK=>?_);go_simp;refine hK.out _ _ ?_;clear hK K;have h14:=(HS11.o.of (show _=Pt g 36 #[v,.slice oA vs.length oc,.slice gA gs.length gc]*(Row 32 1 (.slice A11 (vs.length+1) c11) (vs.length+1) (vs++[v9])*(bQ v9 M*(Row 4 1 (.slice gA gs.length gc) gs.length (gs.map Value.bool)*(bQ v M*(pz vs Ms*F))))) by ac_rfl)).set 1 (.slice A11 (vs.length+1) c11);revert h14;generalize World.setCell _ _ _=W14;intro h14;have hs2:=(h14.of (show _=Row 4 1 (.slice gA gs.length gc) gs.length (gs.map Value.bool)*(Pt g 36 #[v,.slice A11 (vs.length+1) c11,.slice gA gs.length gc]*(Row 32 1 (.slice A11 (vs.length+1) c11) (vs.length+1) (vs++[v9])*(bQ v9 M*(bQ v M*(pz vs Ms*F))))) by ac_rfl));have x1:W14.cell? ⟨g,2,none⟩=some (.slice gA gs.length gc):=hs2.right.cell 2;have HS15:=ah (hs2.aC (.cells #[.bool false] 4));clear h14 hs2 HS11 HS;go_upto_region 3 with (at_builtin;refine au rfl (.tmp 21) (.tmp 22) 34 rfl 4 j1 _ 1 1 Tryz.underlying34 Hj1.o Hz0.o Hz1.o Hz2.o rfl (by decide) (.slice gA gs.length gc) gs.length (gs.map Value.bool) rfl w0 _ (by exact HS15.o) (some ⟨W14.heap.size,0,none⟩) 1 1 [.bool false] rfl (by exact(aL _ _ _)) rfl (by intro u hu;simp at hu;rcases hu with rfl;rfl) (by unfold maxLen;omega) (by omega) ?_;intro B16 c16 w16 hs16;have HS16:=ah hs16;have x2:=hs16.av.cell 2;have f2:=hs16.av.frozen 2;clear hs16)
 have h17:=HS16.o.av.set 2 (.slice B16 (gs.length+1) c16);revert h17;generalize World.setCell _ _ _=W17;intro h17;have x3:W17.cell? ⟨g,1,none⟩=some (.slice A11 (vs.length+1) c11):=h17.cell 1;have HS17:=ah h17;clear h17 f2 x2 x1;go_wp2_with fail;go_ret;refine⟨by rw[HV.o.1];rfl,?_⟩;refine Sat.xW (v:=v) (vo:= .slice A11 (vs.length+1) c11) (vg:= .slice B16 (gs.length+1) c16) (vs:=vs++[v9]) ?_ (by rw[List.length_append,List.length_append,HV.o.1];rfl) (by rw[List.length_append,List.length_append,HV.o.2];rfl);rw[iV,xK v9 M vs Ms HV.o.1,List.map_append,List.length_append,List.length_append];exact HS17.o.of (by show Pt g 36 #[v,.slice A11 (vs.length+1) c11,.slice B16 (gs.length+1) c16]*(Row 4 1 (.slice B16 (gs.length+1) c16) (gs.length+1) (gs.map Value.bool++[.bool false])*(Row 32 1 (.slice A11 (vs.length+1) c11) (vs.length+1) (vs++[v9])*(bQ v9 M*(bQ v M*(pz vs Ms*F)))))=Pt g 36 #[v,.slice A11 (vs.length+1) c11,.slice B16 (gs.length+1) c16]*(Row 32 1 (.slice A11 (vs.length+1) c11) (vs.length+1) (vs++[v9])*(Row 4 1 (.slice B16 (gs.length+1) c16) (gs.length+1) (gs.map Value.bool++[.bool false])*(bQ v M*((bQ v9 M*pz vs Ms)*F))));ac_rfl)
theorem Sat.vu {e:TypeId} {n c:Nat} {A:Option Addr} {xs:List Value} (h:Sat w0 (Row e 1 (.slice A n c) n xs*F) w) (hn:0<n): ∃ b,A=some ⟨b,0,none⟩/\xs.length=n:=by
 obtain⟨hl,⟨_,e2,_⟩ | ⟨b,cap,cur,e1,_⟩⟩:=h.cw
 .omega
 .injection e1 with e1
  exact⟨b,e1,by rw[hl,Nat.mul_one]⟩
theorem Cf (i:Int) (hi: -9223372036854775808<=i/\i<=9223372036854775807) (h:Sat w0 (bm g M Ms gs*F) w) (hn:Ms.length<=10000):
 Calls Tryz.prog 86 #[.pointer (some ⟨g,0,none⟩),.int .i64 i] w fun x w'=> ∃ v',x = .returned (.tuple #[.agg #[v'],.int .i64 (if (bu Ms gs i).isSome=true then 0 else 104)])/\Sat w0 (bQ v' ((bu Ms gs i).getD [])*(bm g M Ms gs*F)) w':=by
 obtain⟨v,vo,vg,vs,⟨hv,hg⟩,h1⟩:=h.KH;have h2:=h1.of (iV ..);obtain⟨oA,oc,rfl,ho1,ho2⟩:=h2.right.aT;obtain⟨gA,gc,rfl,hg1,hg2⟩:=h2.right.right.aT;have h3:=h2.bG (b:=w.heap.size) 32 #[.slice none 0 0] rfl;have HT:Hid (∀ W N v',Sat w0 (bQ v' N*(Pt g 36 #[v,.slice oA vs.length oc,.slice gA gs.length gc]*(Row 32 1 (.slice oA vs.length oc) vs.length vs*(Row 4 1 (.slice gA gs.length gc) gs.length (gs.map Value.bool)*(bQ v M*(pz vs Ms*F)))))) W->Sat w0 (bQ v' N*(bm g M Ms gs*F)) W):=ah fun W N v' hW=>by
  refine(Sat.xW (v:=v) (vo:= .slice oA vs.length oc) (vg:= .slice gA gs.length gc) (vs:=vs) (F:=bQ v' N*F) ?_ hv hg).av;rw[iV];exact hW.of (by ac_rfl)
 have HV:=ah (And.intro hv hg);have hvn:vs.length<=10000:=by omega
 obtain⟨er,her⟩: ∃ er:Int,(if (bu Ms gs i).isSome=true then (0:Int) else 104)=er:=⟨_,rfl⟩;rw[her];have HEr:=ah her;clear her;clear h h1 h2 ho1 ho2 hg1 hg2;go_enter Tryz.func86, Tryz.ntmps86;go_upto_region 1 with fail;revert h3;generalize w.alloc _=W;intro h3;generalize w.heap.size=E at*
 have x0:=h3.cell 0;have y1:W.cell? ⟨g,1,none⟩=some (.slice oA vs.length oc):=h3.av.cell 1;have y2:W.cell? ⟨g,2,none⟩=some (.slice gA gs.length gc):=h3.av.cell 2;have HS:=ah h3;have hgl:gs.length=vs.length:=by omega
 clear h3 hv hg hn;by_cases h1:i<1
 .have HO:Hid (bu Ms gs i=none):=ah (by unfold bu;rw[if_neg (by omega)]);have f0:=HS.o.frozen 0;have h6:=HS.o.set 0 (.slice none 0 0);go_wp2_with fail;revert h6;generalize World.setCell _ _ _=W6;intro h6;refine bodyPost_ret (results_cell_tmp (p:=4) (q:=5) (by kernel_rfl) _ _ E 32 _ (0,0) _ _ rfl rfl h6.at Tryz.underlying32 rfl (by kernel_rfl)) rfl ?_;refine⟨.slice none 0 0,by rw[<-HEr.o,HO.o];rfl,?_⟩;rw[HO.o];exact HT.o _ _ _ (Sat.wy h6.right)
 .by_cases h2:(vs.length:Int)<i
  .have HO:Hid (bu Ms gs i=none):=ah (by
    unfold bu;rw[if_neg];rintro ⟨_,h4⟩;rw[List.getElem?_eq_none (by omega)] at h4
    cases h4)
   have f0:=HS.o.frozen 0;have h6:=HS.o.set 0 (.slice none 0 0);go_wp2_with fail;revert h6;generalize World.setCell _ _ _=W6;intro h6;refine bodyPost_ret (results_cell_tmp (p:=4) (q:=5) (by kernel_rfl) _ _ E 32 _ (0,0) _ _ rfl rfl h6.at Tryz.underlying32 rfl (by kernel_rfl)) rfl ?_;refine⟨.slice none 0 0,by rw[<-HEr.o,HO.o];rfl,?_⟩;rw[HO.o];exact HT.o _ _ _ (Sat.wy h6.right)
  .obtain⟨j,hj⟩: ∃ j:Nat,i=(j:Int)+1:=⟨(i - 1).toNat,by omega⟩;subst hj;have hjv:j<vs.length:=by omega
   have hjg:j<gs.length:=by omega
   have hjM:j<Ms.length:=by have:=HV.o.1;omega
   have hjt:((j:Int)+1 - 1).toNat=j:=by omega
   have hjw:IntKind.i64.wrap ((j:Int)+1 - 1)=(j:Int):=by rw[IntKind.wrap_i64];omega
   obtain⟨ob,rfl,_⟩:=HS.o.right.right.vu (by omega);obtain⟨gb,rfl,_⟩:=HS.o.right.right.right.vu (by omega);have z1:W.cell? ⟨ob,j,none⟩=some vs[j]:=HS.o.right.right.fW hjv;have z2:W.cell? ⟨gb,j,none⟩=some (.bool gs[j]):=by
    have:=HS.o.right.right.right.fW (j:=j) (by rw[List.length_map];exact hjg);rw[List.getElem_map] at this;exact this
   have HG:Hid (bu Ms gs ((j:Int)+1)=if gs[j]=false then some Ms[j] else none):=ah (by
    unfold bu;rw[hjt,List.getElem?_eq_getElem hjg,List.getElem?_eq_getElem hjM]
    cases hgj:gs[j] with
    | true=>rw[if_neg (by simp)];rfl
    | false=>rw[if_pos ⟨by omega,rfl⟩];rfl)
   have HM:Hid (∀ w',Sat w0 (Pt E 32 #[vs[j]]*(Pt g 36 #[v,.slice (some ⟨ob,0,none⟩) vs.length oc,.slice (some ⟨gb,0,none⟩) gs.length gc]*(Row 32 1 (.slice (some ⟨ob,0,none⟩) vs.length oc) vs.length vs*(Row 4 1 (.slice (some ⟨gb,0,none⟩) gs.length gc) gs.length (gs.map Value.bool)*(bQ v M*(pz vs Ms*F)))))) w'->Sat w0 (bQ vs[j] Ms[j]*(bm g M Ms gs*F)) w'):=ah fun w' hw=>by
    refine HT.o _ _ _ ?_;have h5:=(hw.right.of (show _=pz vs Ms*(Pt g 36 #[v,.slice (some ⟨ob,0,none⟩) vs.length oc,.slice (some ⟨gb,0,none⟩) gs.length gc]*(Row 32 1 (.slice (some ⟨ob,0,none⟩) vs.length oc) vs.length vs*(Row 4 1 (.slice (some ⟨gb,0,none⟩) gs.length gc) gs.length (gs.map Value.bool)*(bQ v M*F)))) by ac_rfl)).zC hjv hjM;exact h5.of (by ac_rfl)
   have hvj:=(HS.o.right.right.right.right.right.zC hjv hjM).yK;generalize vs[j]=vj at*
   obtain⟨va,vn,vc,rfl⟩:=hvj;generalize Ms[j]=Mj at*
   generalize gs[j]=gj at*
   have hii:((j:Nat):Int)<vs.length:=by omega
   have hig:((j:Nat):Int)<gs.length:=by omega
   clear hjt hjM hjg hjv
   cases gj with
   | true=>
    have HO:Hid (bu Ms gs ((j:Int)+1)=none):=ah (by rw[HG.o];rfl);have f0:=HS.o.frozen 0;have h6:=HS.o.set 0 (.slice none 0 0);go_wp2_with fail;revert h6;generalize World.setCell _ _ _=W6;intro h6;refine bodyPost_ret (results_cell_tmp (p:=4) (q:=5) (by kernel_rfl) _ _ E 32 _ (0,0) _ _ rfl rfl h6.at Tryz.underlying32 rfl (by kernel_rfl)) rfl ?_;refine⟨.slice none 0 0,by rw[<-HEr.o,HO.o];rfl,?_⟩;rw[HO.o];exact HT.o _ _ _ (Sat.wy h6.right)
   | false=>
    have HO:Hid (bu Ms gs ((j:Int)+1)=some Mj):=ah (by rw[HG.o];rfl);have f0:=HS.o.frozen 0;have h6:=HS.o.set 0 (.slice va vn vc);go_wp2_with fail;revert h6;generalize World.setCell _ _ _=W6;intro h6;refine bodyPost_ret (results_cell_tmp (p:=4) (q:=5) (by kernel_rfl) _ _ E 32 _ (0,0) _ _ rfl rfl h6.at Tryz.underlying32 rfl (by kernel_rfl)) rfl ?_;refine⟨.slice va vn vc,by rw[<-HEr.o,HO.o];rfl,?_⟩;rw[HO.o];exact HM.o _ h6
theorem Em (i:Int) (hi: -9223372036854775808<=i/\i<=9223372036854775807) (h:Sat w0 (bm g M Ms gs*F) w) (hn:Ms.length<=10000):
 Calls Tryz.prog 85 #[.pointer (some ⟨g,0,none⟩),.int .i64 i] w fun x w'=>x = .returned (.int .i64 (if (bu Ms gs i).isSome=true then 0 else 104))/\Sat w0 (bm g M Ms (if (bu Ms gs i).isSome=true then gs.set (i - 1).toNat true else gs)*F) w':=by
 have HA:=ah (Cf i hi h hn);clear h
 cases hO:bu Ms gs i with
 | none=>
  have HO:=ah hO;replace HA:Hid (Calls Tryz.prog 86 #[.pointer (some ⟨g,0,none⟩),.int .i64 i] w fun x w'=> ∃ v',x = .returned (.tuple #[.agg #[v'],.int .i64 104])/\Sat w0 (bQ v' ((bu Ms gs i).getD [])*(bm g M Ms gs*F)) w'):=by rw[hO] at HA ⊢;exact HA
  clear hO;show Calls Tryz.prog 85 #[.pointer (some ⟨g,0,none⟩),.int .i64 i] w fun x w'=>x = .returned (.int .i64 104)/\Sat w0 (bm g M Ms gs*F) w'
  go_enter Tryz.func85, Tryz.ntmps85;go_wp2_with (go_at_call 86;(with_reducible refine HA.o.mono ?_);rintro x w1 ⟨v',rfl,hs⟩;obtain⟨va,vn,vc,rfl⟩:=hs.yK;have HS1:=ah (hs.right.aC (.cells #[.slice va vn vc] 32));clear hs);go_ret;exact⟨rfl,HS1.o⟩
 | some Mo=>
  have hO2:=hO;unfold bu at hO2;have hc:1<=i/\gs[(i - 1).toNat]?=some false:=by
   by_cases hc:1<=i/\gs[(i - 1).toNat]?=some false
   .exact hc
   .rw[if_neg hc] at hO2;cases hO2
  obtain⟨hc1,hc2⟩:=hc;obtain⟨j,hj⟩: ∃ j:Nat,i=(j:Int)+1:=⟨(i - 1).toNat,by omega⟩;subst hj;have hjt:((j:Int)+1 - 1).toNat=j:=by omega
  rw[hjt] at hc2 ⊢;obtain⟨hjg,_⟩:=List.getElem?_eq_some_iff.1 hc2;have hjw:IntKind.i64.wrap ((j:Int)+1 - 1)=(j:Int):=by rw[IntKind.wrap_i64];omega
  have HO:=ah hO;replace HA:Hid (Calls Tryz.prog 86 #[.pointer (some ⟨g,0,none⟩),.int .i64 ((j:Int)+1)] w fun x w'=> ∃ v',x = .returned (.tuple #[.agg #[v'],.int .i64 0])/\Sat w0 (bQ v' ((bu Ms gs ((j:Int)+1)).getD [])*(bm g M Ms gs*F)) w'):=by rw[hO] at HA ⊢;exact HA
  clear hO hO2 hc1 hc2 hjt;show Calls Tryz.prog 85 #[.pointer (some ⟨g,0,none⟩),.int .i64 ((j:Int)+1)] w fun x w'=>x = .returned (.int .i64 0)/\Sat w0 (bm g M Ms (gs.set j true)*F) w'
  go_enter Tryz.func85, Tryz.ntmps85;go_upto_region 2 with (go_at_call 86;(with_reducible refine HA.o.mono ?_);rintro x w1 ⟨v',rfl,hs⟩;obtain⟨va,vn,vc,rfl⟩:=hs.yK;have HS1:=ah (hs.right.aC (.cells #[.slice va vn vc] 32));clear hs)
  obtain⟨v,vo,vg,vs,⟨hv,hg⟩,h1⟩:=HS1.o.KH;have h2:=h1.of (iV ..);obtain⟨gA,gc,rfl,hg1,hg2⟩:=h2.right.right.aT;obtain⟨gb,rfl,_⟩:=h2.right.right.vu (by omega);revert h1 h2;generalize World.alloc _ _=W2;intro h1 h2;have y2:W2.cell? ⟨g,2,none⟩=some (.slice (some ⟨gb,0,none⟩) gs.length gc):=h2.cell 2;have z2:W2.cell? ⟨gb,j,none⟩=some ((gs.map Value.bool)[j]'(by rw[List.length_map];exact hjg)):=h2.right.right.fW (by rw[List.length_map];exact hjg);have f2:=h2.right.right.jl j;have HT:Hid (∀ W,Sat w0 (Row 4 1 (.slice (some ⟨gb,0,none⟩) gs.length gc) gs.length ((gs.map Value.bool).set j (.bool true))*(Pt g 36 #[v,vo,.slice (some ⟨gb,0,none⟩) gs.length gc]*(Row 32 1 vo vs.length vs*(bQ v M*(pz vs Ms*F))))) W->Sat w0 (bm g M Ms (gs.set j true)*F) W):=ah fun W hW=>by
   refine Sat.xW (v:=v) (vo:=vo) (vg:= .slice (some ⟨gb,0,none⟩) gs.length gc) (vs:=vs) ?_ hv (by rw[List.length_set];exact hg);rw[iV,List.map_set,List.length_set];exact hW.of (by ac_rfl)
  have HS3:=ah ((h2.bD).nu (j:=j) (.bool true));have hii:((j:Nat):Int)<gs.length:=by omega
  clear h1 h2 HS1 hv hg hg1 hg2 HA;go_wp2_with fail;go_ret;refine⟨rfl,?_⟩;exact HT.o _ HS3.o
theorem zg (h:Sat w0 (bm g M Ms gs*F) w):
 Calls Tryz.prog 47 #[.pointer (some ⟨g,0,none⟩)] w fun x w'=>x = .returned (.tuple #[])/\Sat w0 (bm g M [] []*F) w':=by
 obtain⟨v,vo,vg,vs,⟨hv,hg⟩,h1⟩:=h.KH;have h2:=h1.of (iV ..);have f1:=h2.frozen 1;have x1:=h2.cell 1;have h3:=h2.set 1 (.slice none 0 0);have f2:=h3.frozen 2;have x2:=h3.cell 2;have h4:=h3.set 2 (.slice none 0 0);have HT:=ah h4;clear h h1 h2 h3 h4 hv hg;go_enter Tryz.func47, Tryz.ntmps47;go_wp2_with fail;go_end0
 refine⟨rfl,?_⟩;have h5:=HT.o;refine Sat.xW (v:=v) (vo:= .slice none 0 0) (vg:= .slice none 0 0) (vs:=[]) (gs:=[]) (Ms:=[]) ?_ rfl rfl;rw[iV];have h6:=(((h5.of (show _=Row 32 1 vo vs.length vs*(Row 4 1 vg gs.length (gs.map Value.bool)*(pz vs Ms*(Pt g 36 #[v,.slice none 0 0,.slice none 0 0]*(bQ v M*F)))) by ac_rfl)).right.right.right.aI 4 1).aI 32 1);have h7:=h6.of (show _=Pt g 36 #[v,.slice none 0 0,.slice none 0 0]*(Row 32 1 (.slice none 0 0) 0 []*(Row 4 1 (.slice none 0 0) 0 []*(bQ v M*F))) by ac_rfl);exact h7.of (by show _=_*(_*(_*(_*(aV*F))));rw[aX];rfl)
end
theorem Ee (p:Kv) (M:List Kv):eW (p::M)=p.1.length+p.2.length+40+eW M:=rfl
section
variable {w0 w w':World} {F F' A B:SP} {b d n t k a nx g:Nat} {M N:List Kv} {olds:Int->Option (List Kv)} {Ms:List (List Kv)} {gs:List Bool} {v:Value}
theorem Sat.MT (h:Sat w0 (A*B) w):Sat w0 A w:=(h.of (bX A B)).right
theorem vO (h:Sat w0 (Pt g 36 #[v,.slice none 0 0,.slice none 0 0]*(bQ v N*F)) w):Sat w0 (bm g N [] []*F) w:=by
 have h2:=((h.aI 4 1).aI 32 1);refine Sat.xW (vs:=[]) (Ms:=[]) (gs:=[]) (v:=v) (vo:= .slice none 0 0) (vg:= .slice none 0 0) ?_ rfl rfl;rw[iV];have h3:=h2.of (show _=Pt g 36 #[v,.slice none 0 0,.slice none 0 0]*(Row 32 1 (.slice none 0 0) 0 []*(Row 4 1 (.slice none 0 0) 0 []*(bQ v N*F))) by ac_rfl);exact h3.of (by show _=_*(_*(_*(_*(aV*F))));rw[aX];rfl)
theorem Sat.lC (h:Sat w0 (bm g N Ms gs*F) w): ∃ LA lc vo vg es R,az es=N/\Sat w0 (Pt g 36 #[.slice LA es.length lc,vo,vg]*(eH (.slice LA es.length lc) es*(R*F))) w/\ ∀ A w',Sat w0 (Pt g 36 #[.slice LA es.length lc,vo,vg]*(eH (.slice LA es.length lc) es*(R*A))) w'->Sat w0 (bm g N Ms gs*A) w':=by
 obtain⟨v,vo,vg,vs,⟨hv,hg⟩,h1⟩:=h.KH;have h2:=(h1.of (iV ..)).of (show _=bQ v N*(Pt g 36 #[v,vo,vg]*((Row 32 1 vo vs.length vs*(Row 4 1 vg gs.length (gs.map Value.bool)*pz vs Ms))*F)) by ac_rfl);obtain⟨es,he,h3⟩:=h2.mp;obtain⟨LA,lc,rfl,_⟩:=h3.mD;refine⟨LA,lc,vo,vg,es,Row 32 1 vo vs.length vs*(Row 4 1 vg gs.length (gs.map Value.bool)*pz vs Ms),he,h3.av,fun A w' hw=>?_⟩;refine Sat.xW (v:= .slice LA es.length lc) (vo:=vo) (vg:=vg) (vs:=vs) ?_ hv hg;rw[iV];exact(hw.av.Bi he).of (by ac_rfl)
theorem aY.lC (h:aY w0 (bm g N Ms gs*F) b d n t k a nx M olds w): ∃ LA lc vo vg es R,az es=N/\aY w0 (Pt g 36 #[.slice LA es.length lc,vo,vg]*(eH (.slice LA es.length lc) es*(R*F))) b d n t k a nx M olds w/\ ∀ A w',Sat w0 (Pt g 36 #[.slice LA es.length lc,vo,vg]*(eH (.slice LA es.length lc) es*(R*A))) w'->Sat w0 (bm g N Ms gs*A) w':=by
 obtain⟨G,hG,hR⟩:=h.re;obtain⟨LA,lc,vo,vg,es,R,he,h1,hB⟩:=(hG.of (aj _ _ _)).lC;exact⟨LA,lc,vo,vg,es,R,he,hR _ _ (h1.of (by ac_rfl)),hB⟩
theorem aY.Ix {C D R:SP} (hB: ∀ A w',Sat w0 (C*(D*(R*A))) w'->Sat w0 (bm g N Ms gs*A) w') (h:aY w0 (C*(D*(R*F))) b d n t k a nx M olds w):aY w0 (bm g N Ms gs*F) b d n t k a nx M olds w:=h.map fun G hG=>(hB (F*G) _ (hG.of (by ac_rfl))).of (by ac_rfl)
theorem nP {LA:Option Addr} {lc:Nat} {es:List En}:qd (eH (.slice LA es.length lc) es*F) LA es:=fun w0 w hs=>⟨hs.jV,hs.nj⟩
end
section
variable {w0 w w':World} {F F':SP} {b d n t k a nx:Nat} {M:List Kv} {olds:Int->Option (List Kv)}
theorem FL (i:Int) (f tt:cW) (aD:Int) (hi: -9223372036854775808<=i/\i<=9223372036854775807) (hf:Rd w f.1 f.2.2) (ht':Rd w tt.1 tt.2.2) (ht:t<=1024) (h:aY w0 F b d n t k a nx M olds w) (l:List Kv) (er:Int) (hq:(olds i=none/\l=[]/\er=104)\/ ∃ Mo,olds i=some Mo/\l=(dU f.2.2 tt.2.2 Mo).take aD.toNat/\er=0):
 Calls Tryz.prog 45 #[.pointer (some ⟨b,0,none⟩),.int .i64 i,.slice f.1 f.2.2.length f.2.1,.slice tt.1 tt.2.2.length tt.2.1,.int .i64 aD] w fun x w'=> ∃ (B:Option Addr) (c:Nat) (qs es:List En),x = .returned (.tuple #[.slice B qs.length c,.int .i64 er])/\az qs=l/\(∀ q ∈ qs,q ∈ es)/\aY w0 (eV B c qs es*F) b d n t k a nx M olds w':=by
 obtain⟨s,S,v,D,h1,h2,h3,h4⟩:=h;refine(Ez b d s v i f tt aD hi hf ht' h4 (by have:=h1.mem.len;omega) l er ?_).mono ?_
 .rcases h1.snaps i with ⟨g1,g2⟩ | ⟨sq,Mo,g1,g2,g3,g4,g5⟩
  .rcases hq with ⟨q1,q2,q3⟩ | ⟨Mo,q1,q2,q3⟩
   .exact .inl ⟨g1,q2,q3⟩
   .rw[g2] at q1;cases q1
  .rcases hq with ⟨q1,q2,q3⟩ | ⟨Mo2,q1,q2,q3⟩
   .rw[g2] at q1;cases q1
   .rw[g2] at q1;injection q1 with q1
    subst q1;exact .inr ⟨sq,g1,by rw[q2,BI h1.mem.sort g4 g5],q3⟩
 .rintro x w' ⟨es,qs,B,c,rfl,h5,h6,hs⟩;exact⟨B,c,qs,es,rfl,h6,h5,s,S,v,D,h1,h2,h3,hs.of (by unfold eV;ac_rfl)⟩
end
def bj (k m:Nat):SP:=fun h=> ∃ es:bP,es.length<=m/\pg k es h
theorem Gu (K:List UInt8) (o:Option (List Kv)):ba K (o.getD [])=o.bind (ba K):=by
 cases o with
 | none=>rfl
 | some M=>rfl
theorem EG {Ms:List (List Kv)} {gs:List Bool} (M:List Kv) (h:gs.length=Ms.length):uH (bu Ms gs) (Ms.length+1) M=bu (Ms++[M]) (gs++[false]):=by
 funext j
 unfold uH bu;by_cases h1:j=((Ms.length+1:Nat):Int)
 .have h2:(j - 1).toNat=Ms.length:=by omega
  rw[if_pos h1,h2,if_pos ⟨by omega,by rw[<-h];simp⟩];simp
 .rw[if_neg h1];by_cases h2:1<=j
  .by_cases h3:(j - 1).toNat<Ms.length
   .rw[List.getElem?_append_left (by omega),List.getElem?_append_left h3]
   .rw[if_neg (by rw[List.getElem?_eq_none (by omega)];simp),if_neg (by rw[List.getElem?_eq_none (by rw[List.length_append,List.length_singleton];omega)];simp)]
  .rw[if_neg (by omega),if_neg (by omega)]
theorem EH {Ms:List (List Kv)} {gs:List Bool} (i:Int) (h:gs.length=Ms.length):ud (bu Ms gs) i=bu Ms (if (bu Ms gs i).isSome=true then gs.set (i - 1).toNat true else gs):=by
 funext j
 unfold ud;by_cases h1:(bu Ms gs i).isSome=true
 .rw[if_pos h1];have h1c:=h1;unfold bu at h1;by_cases h2:1<=i/\gs[(i - 1).toNat]?=some false
  .obtain⟨h3,_⟩:=List.getElem?_eq_some_iff.1 h2.2;by_cases h4:j=i
   .subst h4;rw[if_pos rfl];unfold bu;rw[if_neg];rintro ⟨_,h5⟩;rw[List.getElem?_set_self h3] at h5
    cases h5
   .rw[if_neg h4];unfold bu;by_cases h5:1<=j
    .have h6:(i - 1).toNat≠(j - 1).toNat:=by omega
     rw[List.getElem?_set_ne h6]
    .rw[if_neg (by omega),if_neg (by omega)]
  .rw[if_neg h2] at h1;cases h1
 .rw[if_neg h1];by_cases h4:j=i
  .subst h4;rw[if_pos rfl]
   cases h5:bu Ms gs j with
   | none=>rfl
   | some x=>rw[h5] at h1;exact absurd rfl h1
  .rw[if_neg h4]
section
variable {w0 w w':World} {F F' A B:SP} {b d n t k a nx g kb m:Nat} {M N:List Kv} {olds:Int->Option (List Kv)} {Ms:List (List Kv)} {gs:List Bool} {v:Value} {es:bP}
theorem Sat.NF (h:Sat w0 (bj kb m*F) w): ∃ es:bP,es.length<=m/\Sat w0 (pg kb es*F) w:=by
 obtain⟨c,x,h1,a,f,h2,h3,⟨es,h4,h5⟩,h6⟩:=h;exact⟨es,h4,c,x,h1,a,f,h2,h3,h5,h6⟩
theorem Sat.KV (h:Sat w0 (pg kb es*F) w) (hm:es.length<=m):Sat w0 (bj kb m*F) w:=h.mono fun y ⟨a,f,h2,h3,h5,h6⟩=>⟨a,f,h2,h3,⟨es,hm,h5⟩,h6⟩
theorem JT (h:Sat w0 F w):Sat w0 (bj w.heap.size 0*F) (w.alloc (.cells #[.slice none 0 0,.slice none 0 0,.slice none 0 0,.slice none 0 0,.slice none 0 0,.slice none 0 0] 91)):=by
 have h1:=h.af 91 #[.slice none 0 0,.slice none 0 0,.slice none 0 0,.slice none 0 0,.slice none 0 0,.slice none 0 0];refine Sat.KV (es:=[]) ?_ (Nat.le_refl _);refine Sat.Ki (vb:= .slice none 0 0) (vs:= .slice none 0 0) (ss:=[]) rfl ?_;rw[vX];have h2:=((h1.aI 41 1).aI 41 1).of (show _=Pt w.heap.size 91 #[.slice none 0 0,.slice none 0 0,.slice none 0 0,.slice none 0 0,.slice none 0 0,.slice none 0 0]*(Row 41 1 (.slice none 0 0) 0 []*(Row 41 1 (.slice none 0 0) 0 []*F)) by ac_rfl);exact h2.of (by show _=_*(_*(_*(aV*(aV*F))));rw[aX,aX];rfl)
theorem LC {x:Option Addr × Nat × List UInt8} (h:Sat w0 (pg kb (es++[x])*F) w):Rd w x.1 x.2.2:=by
 obtain⟨vb,vs,ss,ht,h1⟩:=h.Ku;have h2:=oG (h1.of (vX ..)).bW;exact h2.rd (by simp)
theorem zU (x:Option Addr × Nat × List UInt8) (h:aY w0 (Row 5 1 (aE x) x.2.2.length (x.2.2.map bv)*(bj kb m*F)) b d n t k a nx M olds w) (hm:m<400) (hl:x.2.2.length<=140737488355328):
 Calls Tryz.prog 82 #[.pointer (some ⟨kb,0,none⟩),.slice x.1 x.2.2.length x.2.1] w fun e w'=>e = .returned (.tuple #[])/\Rd w' x.1 x.2.2/\aY w0 (bj kb (m+1)*F) b d n t k a nx M olds w':=by
 obtain⟨G,hG,hR⟩:=h.re;obtain⟨es,he,h0⟩:=(hG.of (show _=bj kb m*(Row 5 1 (aE x) x.2.2.length (x.2.2.map bv)*(F*G)) by ac_rfl)).NF;refine(yk kb es x w0 w (F*G) h0.av (by omega) hl).mono ?_;rintro e w' ⟨rfl,h9⟩;exact⟨rfl,LC h9,hR _ _ ((h9.KV (m:=m+1) (by rw[List.length_append,List.length_singleton];omega)).of (by ac_rfl))⟩
theorem Kl (K:cW) (hK: ∀ W,Sat w0 F W->Rd W K.1 K.2.2) (h:aY w0 (bQ v N*F) b d n t k a nx M olds w) (hl:N.length<=100000):
 Calls Tryz.prog 81 #[.agg #[v],.slice K.1 K.2.2.length K.2.1] w fun x w'=> ∃ A c,x = .returned (.tuple #[.slice A ((ba K.2.2 N).getD []).length c,.bool (ba K.2.2 N).isSome])/\Rd w' A ((ba K.2.2 N).getD [])/\aY w0 (ca [(A,c,(ba K.2.2 N).getD [])]*(bQ v N*F)) b d n t k a nx M olds w':=by
 obtain⟨G,hG,hR⟩:=h.re;refine(Gp K (F:=F*G) (fun W hW=>hK W hW.MT) (hG.of (aj _ _ _)) hl).mono ?_;rintro x w' ⟨A,c,rfl,h9⟩;exact⟨A,c,rfl,h9.Fe (List.mem_singleton_self _),hR _ _ (h9.of (by ac_rfl))⟩
theorem Ic (f tt:cW) (aD:Int) (hK: ∀ W,Sat w0 F W->Rd W f.1 f.2.2/\Rd W tt.1 tt.2.2) (h:aY w0 (bQ v N*F) b d n t k a nx M olds w) (hl:N.length<=100000):
 Calls Tryz.prog 83 #[.agg #[v],.slice f.1 f.2.2.length f.2.1,.slice tt.1 tt.2.2.length tt.2.1,.int .i64 aD] w fun x w'=> ∃ (C:Option Addr) (c:Nat) (fs:List En),x = .returned (.slice C fs.length c)/\az fs=(dU f.2.2 tt.2.2 N).take aD.toNat/\aY w0 (eH (.slice C fs.length c) fs*(bQ v N*F)) b d n t k a nx M olds w':=by
 obtain⟨G,hG,hR⟩:=h.re;refine(E8 f tt aD (F:=F*G) (fun W hW=>hK W hW.MT) (hG.of (aj _ _ _)) hl).mono ?_;rintro x w' ⟨v',rfl,h9⟩;obtain⟨fs,hfs,h10⟩:=h9.mp;obtain⟨C,c,rfl,_⟩:=h10.mD;exact⟨C,c,fs,rfl,hfs,hR _ _ (h10.of (by ac_rfl))⟩
theorem aY.now (h:aY w0 (bm g N Ms gs*F) b d n t k a nx M olds w): ∃ LA lc R,(∀ F' W,aY w0 (R*F') b d n t k a nx M olds W->W.cell? ⟨g,0,none⟩=some (.slice LA N.length lc)/\aY w0 (bm g N Ms gs*F') b d n t k a nx M olds W)/\aY w0 (bQ (.slice LA N.length lc) N*(R*F)) b d n t k a nx M olds w:=by
 obtain⟨LA,lc,vo,vg,es,R,he,h1,hB⟩:=h.lC;have hl:es.length=N.length:=by rw[<-he,bB]
 refine⟨LA,lc,Pt g 36 #[.slice LA es.length lc,vo,vg]*(eH (.slice LA es.length lc) es*R),fun F' W hW=>?_,?_⟩
 .have h2:=hW.of (show _=Pt g 36 #[.slice LA es.length lc,vo,vg]*(eH (.slice LA es.length lc) es*(R*F')) by ac_rfl);rw[<-hl];exact⟨h2.sat.cell 0,aY.Ix hB h2⟩
 .rw[<-hl];obtain⟨G,hG,hR⟩:=(h1.of (show _=eH (.slice LA es.length lc) es*(Pt g 36 #[.slice LA es.length lc,vo,vg]*(R*F)) by ac_rfl)).re;exact hR _ _ ((((hG.of (aj _ _ _)).qn).Bi he).of (by ac_rfl))
theorem Mz (i:Int) (hi: -9223372036854775808<=i/\i<=9223372036854775807) (h:aY w0 (bm g N Ms gs*F) b d n t k a nx M olds w) (hn:Ms.length<=10000):
 Calls Tryz.prog 86 #[.pointer (some ⟨g,0,none⟩),.int .i64 i] w fun x w'=> ∃ va vn vc,x = .returned (.tuple #[.agg #[.slice va vn vc],.int .i64 (if (bu Ms gs i).isSome=true then 0 else 104)])/\aY w0 (bQ (.slice va vn vc) ((bu Ms gs i).getD [])*(bm g N Ms gs*F)) b d n t k a nx M olds w':=by
 obtain⟨G,hG,hR⟩:=h.re;refine(Cf i hi (hG.of (aj _ _ _)) hn).mono ?_;rintro x w' ⟨v',rfl,h9⟩;obtain⟨va,vn,vc,rfl⟩:=h9.yK;exact⟨va,vn,vc,rfl,hR _ _ (h9.of (by ac_rfl))⟩
theorem KJ (h:aY w0 (bm g N Ms gs*F) b d n t k a nx M olds w) (hl:N.length<=10000) (hn:Ms.length<=10000):
 Calls Tryz.prog 84 #[.pointer (some ⟨g,0,none⟩)] w fun x w'=>x = .returned (.int .i64 (Ms.length+1:Nat))/\aY w0 (bm g N (Ms++[N]) (gs++[false])*F) b d n t k a nx M olds w':=by
 obtain⟨G,hG,hR⟩:=h.re;refine(Eh (hG.of (aj _ _ _)) hl hn).mono ?_;rintro x w' ⟨rfl,h9⟩;exact⟨rfl,hR _ _ (h9.of (by ac_rfl))⟩
theorem KX (i:Int) (hi: -9223372036854775808<=i/\i<=9223372036854775807) (h:aY w0 (bm g N Ms gs*F) b d n t k a nx M olds w) (hn:Ms.length<=10000):
 Calls Tryz.prog 85 #[.pointer (some ⟨g,0,none⟩),.int .i64 i] w fun x w'=>x = .returned (.int .i64 (if (bu Ms gs i).isSome=true then 0 else 104))/\aY w0 (bm g N Ms (if (bu Ms gs i).isSome=true then gs.set (i - 1).toNat true else gs)*F) b d n t k a nx M olds w':=by
 obtain⟨G,hG,hR⟩:=h.re;refine(Em i hi (hG.of (aj _ _ _)) hn).mono ?_;rintro x w' ⟨rfl,h9⟩;exact⟨rfl,hR _ _ (h9.of (by ac_rfl))⟩
theorem aY.Jm (h:aY w0 (bm g N Ms gs*F) b d n t k a nx M olds w):gs.length=Ms.length:=by
 obtain⟨G,hG,_⟩:=h.re;obtain⟨_,_,_,_,⟨_,h1⟩,_⟩:=(hG.of (aj _ _ _)).KH;exact h1
end
def iJ (w0:World) (F:SP) (b d n t k a g kb m q:Nat) (M:List Kv) (w:World):Prop:=
 ∃ Ms gs,Ms.length<=q/\(∀ N ∈ Ms,N.length<=2000)/\aY w0 (bm g M Ms gs*(bj kb m*F)) b d n t k a (Ms.length+1) M (bu Ms gs) w
section
variable {w0 w w':World} {F F' A B:SP} {b d n t k a nx g kb m q:Nat} {M N:List Kv} {olds:Int->Option (List Kv)} {Ms:List (List Kv)} {gs:List Bool} {v:Value}
theorem aY.lh {m':Nat} (h:aY w0 (A*(bj kb m*F)) b d n t k a nx M olds w) (hm:m<=m'):aY w0 (A*(bj kb m'*F)) b d n t k a nx M olds w:=h.map fun G hG=>by
 obtain⟨es,he,h1⟩:=(hG.of (show _=bj kb m*(G*(A*F)) by ac_rfl)).NF;exact(h1.KV (m:=m') (by omega)).of (by ac_rfl)
theorem BU {i:Int} (h: ∀ N ∈ Ms,N.length<=2000):((bu Ms gs i).getD []).length<=2000:=by
 unfold bu;split
 .cases h1:Ms[(i - 1).toNat]? with
  | none=>exact Nat.zero_le _
  | some N=>exact h N (List.mem_of_getElem? h1)
 .exact Nat.zero_le _
theorem Ka (x:nB) (h:iJ w0 F b d n t k a g kb m q M w) (hk:k<=9000) (ht:t<=1024) (hm:m<400) (hq:q<=1000) (hxn: -9223372036854775808<=x.n/\x.n<=9223372036854775807)
 (hr: ∀ W,Sat w0 F W->Rd W x.key.1 x.key.2.2/\Rd W x.too.1 x.too.2.2) (h7:wi x.op 10=7->a=0):
 Calls Tryz.prog 48 #[.pointer (some ⟨b,0,none⟩),.pointer (some ⟨g,0,none⟩),.agg (Bg x),.pointer (some ⟨kb,0,none⟩)] w fun e w'=>e = .returned (.bool true)/\iJ w0 F b d n t (k+1) a g kb (m+1) (q+1) M w':=by
 obtain⟨Ms,gs,hM1,hM2,h0⟩:=h;obtain⟨op,xn,bA,bc,ps,⟨kA,kc,kl⟩,⟨tA,tc,tl⟩,eA,ec,kp,torn,cut⟩:=x;have hpr:=h0.gh;have hgl:=h0.Jm;obtain⟨CS,hCS⟩: ∃ CS:Array Value,CS = #[.int .i64 op,.int .i64 xn,.slice bA ps.length bc,.slice kA kl.length kc,.slice tA tl.length tc,.slice eA kp.length ec,.int .i64 torn,.int .i64 cut]:=⟨_,rfl⟩;have HFin:Hid (∀ W Ms' gs' k',Ms'.length<=q+1->(∀ N ∈ Ms',N.length<=2000)->k'<=k+1->aY w0 (bm g M Ms' gs'*(bj kb (m+1)*F)) b d n t k' a (Ms'.length+1) M (bu Ms' gs') W->iJ w0 F b d n t (k+1) a g kb (m+1) (q+1) M W):=ah fun W Ms' gs' k' h1 h2 h3 h4=>⟨Ms',gs',h1,h2,h4.mono (Nat.le_refl _) h3⟩
 have HFi:Hid (∀ W,aY w0 (bm g M Ms gs*(bj kb m*F)) b d n t k a (Ms.length+1) M (bu Ms gs) W->iJ w0 F b d n t (k+1) a g kb (m+1) (q+1) M W):=ah fun W h4=>HFin.o W Ms gs k (by omega) hM2 (by omega) (aY.lh h4 (by omega))
 have h1:aY w0 (Pt w.heap.size 80 CS*(bm g M Ms gs*(bj kb m*F))) b d n t k a (Ms.length+1) M (bu Ms gs) (w.alloc (.cells CS 80)):=h0.al (.cells CS 80);have HMs:=ah hM2;have HPr:=ah hpr;have HGl:=ah hgl;have HRd:Hid (∀ W,Sat w0 F W->Rd W kA kl/\Rd W tA tl):=ah hr;have HMl:Hid (M.length<=1024):=ah (by have:=hpr.2.1;omega);have HC0:Hid (∀ E W,Sat w0 (Pt E 80 CS*(bm g M Ms gs*(bj kb m*F))) W->W.cell? ⟨E,0,none⟩=some (.int .i64 op)):=ah fun E W hW=>by rw[hW.cell 0,hCS];rfl
 have HCl:Hid (∀ E X W,Sat w0 (Pt E 80 CS*X) W->W.cell? ⟨E,1,none⟩=some (.int .i64 xn)/\W.cell? ⟨E,3,none⟩=some (.slice kA kl.length kc)/\W.cell? ⟨E,4,none⟩=some (.slice tA tl.length tc)):=ah fun E X W hW=>⟨by rw[hW.cell 1,hCS];rfl,by rw[hW.cell 3,hCS];rfl,by rw[hW.cell 4,hCS];rfl⟩
 replace hxn: -9223372036854775808<=xn/\xn<=9223372036854775807:=hxn;have H7:Hid (wi op 10=7->a=0):=ah h7;have HWi:=ah (Ke op 10 (by omega));clear h0 hpr hr h7 hgl;show Calls Tryz.prog 48 #[.pointer (some ⟨b,0,none⟩),.pointer (some ⟨g,0,none⟩),.agg #[.int .i64 op,.int .i64 xn,.slice bA ps.length bc,.slice kA kl.length kc,.slice tA tl.length tc,.slice eA kp.length ec,.int .i64 torn,.int .i64 cut],.pointer (some ⟨kb,0,none⟩)] w _;go_enter Tryz.func48, Tryz.ntmps48;go_upto_region 1 with fail;rw[<-hCS];revert h1;generalize w.alloc _=W;intro h1;generalize w.heap.size=E at*
 have x0:=HC0.o _ _ h1.sat;have HS:=ah h1;clear h1 hCS HC0;go_upto_region 2 with (go_at_call 27;(with_reducible refine(Cm _ 10 _ (by omega) (by omega)).mono ?_);rintro e wx ⟨rfl,rfl⟩)
 have hwi:=HWi.o;generalize wi op 10=dd at*
 clear x0 HWi;by_cases h1:dd=1
 .subst h1;have hs1:=HS.o;have c3:=(HCl.o _ _ _ hs1.sat).2.1;obtain⟨L,hL⟩: ∃ L,L=(ba kl M).getD []:=⟨_,rfl⟩;obtain⟨bo,hbo⟩: ∃ bo,bo=(ba kl M).isSome:=⟨_,rfl⟩;have hLl:L.length<=20000:=by
   rw[hL]
   cases hg:ba kl M with
   | none=>exact Nat.zero_le _
   | some z=>exact(HPr.o.2.2 _ (zi hg)).2
  have HGe:Hid (Calls Tryz.prog 32 #[.pointer (some ⟨b,0,none⟩),.slice kA kl.length kc] W fun e w'=> ∃ A c,e = .returned (.tuple #[.slice A L.length c,.bool bo])/\aY w0 (Row 5 1 (.slice A L.length c) L.length (L.map bv)*(Pt E 80 CS*(bm g M Ms gs*(bj kb m*F)))) b d n t k a (Ms.length+1) M (bu Ms gs) w'):=ah (by
   have h9:=KI (kA,kc,kl) (HRd.o _ hs1.sat.right.right.right).1 ht hs1;rw[<-hL, <-hbo] at h9;exact h9)
  have HL:=ah hL;have HBo:=ah hbo;clear hs1 hL hbo;go_upto_region 4 with (go_at_call 32;(with_reducible refine HGe.o.mono ?_);rintro e w3 ⟨A3,c3',rfl,hs⟩;have HS3:=ah hs;clear hs)
  clear c3 HGe HS;have hs3:=HS3.o.map fun G hG=>hG.drew
  obtain⟨LA,lc,R,hc,hs4⟩:=(hs3.of (show _=bm g M Ms gs*(Pt E 80 CS*(Row 5 1 (.slice A3 L.length c3') L.length (L.map bv)*(bj kb m*F))) by ac_rfl)).now;have HK:Hid (∀ W,aY w0 (R*(Pt E 80 CS*(Row 5 1 (.slice A3 L.length c3') L.length (L.map bv)*(bj kb m*F)))) b d n t k a (Ms.length+1) M (bu Ms gs) W->W.cell? ⟨g,0,none⟩=some (.slice LA M.length lc)/\W.cell? ⟨E,3,none⟩=some (.slice kA kl.length kc)):=ah fun W hW=>⟨(hc _ _ hW).1,(HCl.o _ _ _ hW.sat.right).2.1⟩
  have HK2:=ah hc;have HMg:Hid (Calls Tryz.prog 81 #[.agg #[.slice LA M.length lc],.slice kA kl.length kc] w3.drew fun e w'=> ∃ A c,e = .returned (.tuple #[.slice A L.length c,.bool bo])/\aY w0 (ca [(A,c,L)]*(R*(Pt E 80 CS*(Row 5 1 (.slice A3 L.length c3') L.length (L.map bv)*(bj kb m*F))))) b d n t k a (Ms.length+1) M (bu Ms gs) w'):=ah ((Kl (kA,kc,kl) (fun W hW=>(HRd.o _ hW.right.right.right.right).1) hs4 (by have:=HMl.o;omega)).mono (by
   rintro e w' ⟨A,c,rfl,h8,h9⟩;refine⟨A,c,?_,?_⟩
   .rw[HL.o,HBo.o]
   .have h10:=(h9.of (show _=bQ (.slice LA M.length lc) M*(ca [(A,c,(ba kl M).getD [])]*_) from aK _ _ _)).drop;rw[<-HL.o] at h10;exact h10))
  have HS4:=ah hs4.drop;clear hs3 hc hs4 HS3;refine wp_region_held_drew (S:=fun w'=>w'.cell? ⟨g,0,none⟩=some (.slice LA M.length lc)/\w'.cell? ⟨E,3,none⟩=some (.slice kA kl.length kc)) (by kernel_rfl) (HK.o _ HS4.o) ?_;intro hS0;refine an 0 1 2 3 ?_;refine cm 4 5 ?_;refine bR 6 fun K hK=>?_
  go_simp;go_at_call 81;(with_reducible refine HMg.o.mono ?_);rintro e w6 ⟨A6,c6,rfl,hs⟩;have HS6:=ah hs;clear hs
  refine hK.out _ _ (HK.o _ HS6.o.drop) (fun hS0=>?_);clear hK K;refine an 7 8 9 10 ?_;refine cH 11 ?_;refine wpAnyH_done (by kernel_rfl) ?_ _;have hs6:=HS6.o.of (show _=Row 5 1 (.slice A3 L.length c3') L.length (L.map bv)*(bj kb m*(ca [(A6,c6,L)]*(R*(Pt E 80 CS*F)))) by ac_rfl);have HBy:Hid (Calls Tryz.prog 82 #[.pointer (some ⟨kb,0,none⟩),.slice A3 L.length c3'] w6 fun e w'=>e = .returned (.tuple #[])/\Rd w' A3 L/\aY w0 (bj kb (m+1)*(ca [(A6,c6,L)]*(R*(Pt E 80 CS*F)))) b d n t k a (Ms.length+1) M (bu Ms gs) w'):=zU (A3,c3',L) hs6 hm (by show L.length<=_;omega);clear hs6 HS4 HMg HS6;go_upto_region 6 with (go_at_call 82;(with_reducible refine HBy.o.mono ?_);rintro e w7 ⟨rfl,hrd,hs⟩;have HR7:=ah hrd;have HS7:=ah hs;clear hrd hs)
  clear HBy;have HSa:Hid (Calls Tryz.prog 36 #[.slice A3 L.length c3',.slice A6 L.length c6] w7 fun x w'=>x = .returned (.bool true)/\w7=w'):=ah (by
   have h9:=uP A3 A6 c3' c6 L L w7 HR7.o (HS7.o.sat.right.Fe (List.mem_singleton_self _));rw[decide_eq_true rfl] at h9;exact h9)
  have HS8:Hid (iJ w0 F b d n t (k+1) a g kb (m+1) (q+1) M w7):=ah (by
   have h9:=(HK2.o _ _ (HS7.o.of (show _=R*(ca [(A6,c6,L)]*(Pt E 80 CS*(bj kb (m+1)*F))) by ac_rfl))).2;exact HFin.o _ Ms gs k (by omega) HMs.o (by omega) (h9.of (show _=ca [(A6,c6,L)]*(Pt E 80 CS*(bm g M Ms gs*(bj kb (m+1)*F))) by ac_rfl)).drop.drop)
  clear HS7 HR7;go_wp2_with (go_at_call 36;(with_reducible refine HSa.o.mono ?_);rintro e wx ⟨rfl,rfl⟩);go_ret;exact⟨rfl,HS8.o⟩
 .by_cases h2:dd=2
  .subst h2;have hs3:=HS.o.map fun G hG=>hG.drew
   obtain⟨LA,lc,R,hc,hs4⟩:=(hs3.of (show _=bm g M Ms gs*(Pt E 80 CS*(bj kb m*F)) by ac_rfl)).now;have HK:Hid (∀ W,aY w0 (R*(Pt E 80 CS*(bj kb m*F))) b d n t k a (Ms.length+1) M (bu Ms gs) W->W.cell? ⟨g,0,none⟩=some (.slice LA M.length lc)/\W.cell? ⟨E,1,none⟩=some (.int .i64 xn)/\W.cell? ⟨E,3,none⟩=some (.slice kA kl.length kc)/\W.cell? ⟨E,4,none⟩=some (.slice tA tl.length tc)):=ah fun W hW=>⟨(hc _ _ hW).1,HCl.o _ _ _ hW.sat.right⟩
   have HB:Hid (∀ W,aY w0 (R*(Pt E 80 CS*(bj kb m*F))) b d n t k a (Ms.length+1) M (bu Ms gs) W->iJ w0 F b d n t (k+1) a g kb (m+1) (q+1) M W):=ah fun W hW=>HFi.o _ ((hc _ _ hW).2.of (show _=Pt E 80 CS*(bm g M Ms gs*(bj kb m*F)) by ac_rfl)).drop
   have HS4:=ah hs4;obtain⟨MS,hMS⟩: ∃ MS,MS=(dU kl tl M).take xn.toNat:=⟨_,rfl⟩;have hMl2:MS.length<=1024:=by
    rw[hMS,List.length_take];have h9:(dU kl tl M).length<=M.length:=List.length_filter_le _ _;have:=HMl.o;omega
   have HSc:Hid (Calls Tryz.prog 24 #[.pointer (some ⟨b,0,none⟩),.slice kA kl.length kc,.slice tA tl.length tc,.int .i64 xn] W.drew fun x w'=> ∃ (B:Option Addr) (c:Nat) (qs es:List En),x = .returned (.slice B qs.length c)/\az qs=MS/\(∀ z ∈ qs,z ∈ es)/\qs.length<=c/\aY w0 (eV B c qs es*(bQ (.slice LA M.length lc) M*(R*(Pt E 80 CS*(bj kb m*F))))) b d n t k a (Ms.length+1) M (bu Ms gs) w'):=Av (kA,kc,kl) (tA,tc,tl) xn MS hMS.symm (HRd.o _ hs4.sat.right.right.right.right).1 (HRd.o _ hs4.sat.right.right.right.right).2 ht hs4;have HSm:Hid (∀ B c qs es W,aY w0 (eV B c qs es*(bQ (.slice LA M.length lc) M*(R*(Pt E 80 CS*(bj kb m*F))))) b d n t k a (Ms.length+1) M (bu Ms gs) W->Calls Tryz.prog 83 #[.agg #[.slice LA M.length lc],.slice kA kl.length kc,.slice tA tl.length tc,.int .i64 xn] W fun x w'=> ∃ (C:Option Addr) (c2:Nat) (fs:List En),x = .returned (.slice C fs.length c2)/\az fs=MS/\aY w0 (eH (.slice C fs.length c2) fs*(bQ (.slice LA M.length lc) M*(eV B c qs es*(R*(Pt E 80 CS*(bj kb m*F)))))) b d n t k a (Ms.length+1) M (bu Ms gs) w'):=ah fun B c qs es W hW=>by
    rw[hMS];exact Ic (kA,kc,kl) (tA,tc,tl) xn (fun W hW=>HRd.o _ hW.right.right.right.right) (hW.of (aK _ _ _)) (by have:=HMl.o;omega)
   have HPa:Hid (∀ B c qs es C c2 fs W,az qs=MS->az fs=MS->(∀ z ∈ qs,z ∈ es)->aY w0 (eH (.slice C fs.length c2) fs*(bQ (.slice LA M.length lc) M*(eV B c qs es*(R*(Pt E 80 CS*(bj kb m*F)))))) b d n t k a (Ms.length+1) M (bu Ms gs) W->Calls Tryz.prog 23 #[.slice B qs.length c,.slice C fs.length c2] W fun x w'=>x = .returned (.bool true)/\aY w0 (eH (.slice C fs.length c2) fs*(bQ (.slice LA M.length lc) M*(eV B c qs es*(R*(Pt E 80 CS*(bj kb m*F)))))) b d n t k a (Ms.length+1) M (bu Ms gs) w'):=ah fun B c qs es C c2 fs W e1 e2 e3 hW=>mN (sG e3).left.left nP (e1.trans e2.symm) (by have h4:=congrArg List.length e1;rw[bB] at h4;omega) hW
   clear hs3 hc hs4 HS hMS;go_upto_region 8 with fail;refine wp_region_held_drew (S:=fun w'=>w'.cell? ⟨g,0,none⟩=some (.slice LA M.length lc)/\w'.cell? ⟨E,1,none⟩=some (.int .i64 xn)/\w'.cell? ⟨E,3,none⟩=some (.slice kA kl.length kc)/\w'.cell? ⟨E,4,none⟩=some (.slice tA tl.length tc)) (by kernel_rfl) (HK.o _ HS4.o.drop) ?_;intro hS0;refine an 0 1 2 3 ?_;refine an 4 5 6 8 ?_;refine an 9 10 11 12 ?_;refine an 13 14 15 16 ?_;refine cH 17 ?_;refine bR 7 fun K hK=>?_
   go_simp;go_at_call 24;(with_reducible refine HSc.o.mono ?_);rintro e w7 ⟨B7,c7,qs,es7,rfl,hq1,hq2,_,hs⟩;have HQ1:=ah hq1;have HQ2:=ah hq2;have HS7:=ah hs;clear hq1 hq2 hs
   refine hK.out _ _ (HK.o _ HS7.o.drop.drop) (fun hS0=>?_);clear hK K;refine bR 18 fun K hK=>?_
   go_simp;go_at_call 83;(with_reducible refine(HSm.o _ _ _ _ _ HS7.o).mono ?_);rintro e w18 ⟨C8,c8,fs,rfl,hf1,hs⟩;have HF1:=ah hf1;have HS18:=ah hs;clear hf1 hs
   refine hK.out _ _ (HK.o _ HS18.o.drop.drop.drop) (fun hS0=>?_);clear hK K;refine bR 19 fun K hK=>?_
   go_simp;go_at_call 23;(with_reducible refine(HPa.o _ _ _ _ _ _ _ _ HQ1.o HF1.o HQ2.o HS18.o).mono ?_);rintro e w19 ⟨rfl,hs⟩;have HS19:=ah hs;clear hs
   refine hK.out _ _ (HK.o _ HS19.o.drop.drop.drop) (fun hS0=>?_);clear hK K;refine cH 20 ?_;refine wpAnyH_done (by kernel_rfl) ?_ _;go_wp2_with fail;go_ret;exact⟨rfl,HB.o _ HS19.o.drop.drop.drop⟩
  .by_cases h3:dd=3
   .subst h3;have HSn:Hid (Calls Tryz.prog 41 #[.pointer (some ⟨b,0,none⟩)] W fun x w'=>x = .returned (.int .i64 (Ms.length+1:Nat))/\aY w0 (Pt E 80 CS*(bm g M Ms gs*(bj kb m*F))) b d n t (k+1) a (Ms.length+1+1) M (bu (Ms++[M]) (gs++[false])) w'):=ah (by
     have h9:=KB (by omega) HS.o;rw[EG M HGl.o] at h9;exact h9)
    have HSr:Hid (∀ W,aY w0 (Pt E 80 CS*(bm g M Ms gs*(bj kb m*F))) b d n t (k+1) a (Ms.length+1+1) M (bu (Ms++[M]) (gs++[false])) W->Calls Tryz.prog 84 #[.pointer (some ⟨g,0,none⟩)] W fun x w'=>x = .returned (.int .i64 (Ms.length+1:Nat))/\aY w0 (bm g M (Ms++[M]) (gs++[false])*(Pt E 80 CS*(bj kb m*F))) b d n t (k+1) a (Ms.length+1+1) M (bu (Ms++[M]) (gs++[false])) w'):=ah fun W hW=>KJ (hW.of (aK _ _ _)) (by have:=HMl.o;omega) (by omega)
    clear HS;go_wp2_with (first
     | (go_at_call 41;(with_reducible refine HSn.o.mono ?_);rintro e w3 ⟨rfl,hs⟩;have HS3:=ah hs;clear hs)
     | (go_at_call 84;(with_reducible refine(HSr.o _ HS3.o).mono ?_);rintro e w4 ⟨rfl,hs⟩;have HS4:=ah hs;clear hs))
    go_ret;refine⟨rfl,HFin.o _ (Ms++[M]) (gs++[false]) (k+1) (by rw[List.length_append,List.length_singleton];omega) (fun N hN=>?_) (Nat.le_refl _) ?_⟩
    .rcases List.mem_append.1 hN with hN | hN
     .exact HMs.o N hN
     .rw[List.mem_singleton.1 hN];have:=HMl.o;omega
    .rw[List.length_append,List.length_singleton];exact(aY.lh (HS4.o.of (show _=Pt E 80 CS*(bm g M (Ms++[M]) (gs++[false])*(bj kb m*F)) by ac_rfl)).drop (by omega))
   .by_cases h4:dd=4
    .subst h4;obtain⟨er,her⟩: ∃ er:Int,(if (bu Ms gs xn).isSome=true then (0:Int) else 104)=er:=⟨_,rfl⟩;obtain⟨gs',hgs'⟩: ∃ gs',gs'=(if (bu Ms gs xn).isSome=true then gs.set (xn - 1).toNat true else gs):=⟨_,rfl⟩;have hsd:=HS.o.map fun G hG=>hG.drew
     have HDs:Hid (Calls Tryz.prog 43 #[.pointer (some ⟨b,0,none⟩),.int .i64 xn] W.drew fun x w'=>x = .returned (.int .i64 er)/\aY w0 (Pt E 80 CS*(bm g M Ms gs*(bj kb m*F))) b d n t k a (Ms.length+1) M (bu Ms gs') w'):=ah (by
      have h9:=Ml xn hxn hsd;rw[EH xn HGl.o,her, <-hgs'] at h9;exact h9)
     have HDr:Hid (∀ W,aY w0 (Pt E 80 CS*(bm g M Ms gs*(bj kb m*F))) b d n t k a (Ms.length+1) M (bu Ms gs') W->Calls Tryz.prog 85 #[.pointer (some ⟨g,0,none⟩),.int .i64 xn] W fun x w'=>x = .returned (.int .i64 er)/\aY w0 (bm g M Ms gs'*(Pt E 80 CS*(bj kb m*F))) b d n t k a (Ms.length+1) M (bu Ms gs') w'):=ah fun W hW=>by
      have h9:=KX xn hxn (hW.of (aK _ _ _)) (by omega);rw[her, <-hgs'] at h9;exact h9
     have HSd:=ah hsd;clear hsd her hgs' HS;go_upto_region 12 with fail;refine wp_region_held_drew (S:=fun w'=>w'.cell? ⟨E,1,none⟩=some (.int .i64 xn)) (by kernel_rfl) ((HCl.o _ _ _ HSd.o.sat).1) ?_;intro hS0;refine an 0 1 2 5 ?_;refine cm 6 7 ?_;refine bR 3 fun K hK=>?_
     go_simp;go_at_call 43;(with_reducible refine HDs.o.mono ?_);rintro e w3 ⟨rfl,hs⟩;have HS3:=ah hs;clear hs
     refine hK.out _ _ ((HCl.o _ _ _ HS3.o.sat).1) (fun hS0=>?_);clear hK K;refine bR 4 fun K hK=>?_
     go_simp;go_at_call 29;(with_reducible refine(dr _ _).mono ?_);rintro e wx ⟨rfl,rfl⟩
     refine hK.out _ _ ((HCl.o _ _ _ HS3.o.sat).1) (fun hS0=>?_);clear hK K;refine bR 8 fun K hK=>?_
     go_simp;go_at_call 85;(with_reducible refine(HDr.o _ HS3.o).mono ?_);rintro e w8 ⟨rfl,hs⟩;have HS8:=ah hs;clear hs
     refine hK.out _ _ ((HCl.o _ _ _ HS8.o.sat.right).1) (fun hS0=>?_);clear hK K;refine cm 9 10 ?_;refine wpAnyH_done (by kernel_rfl) ?_ _;go_wp2_with fail;go_ret;exact⟨rfl,HFin.o _ Ms gs' k (by omega) HMs.o (by omega) (aY.lh (HS8.o.of (show _=Pt E 80 CS*(bm g M Ms gs'*(bj kb m*F)) by ac_rfl)).drop (by omega))⟩
    .by_cases h5:dd=5
     .subst h5;have hs1:=HS.o;have c3:=(HCl.o _ _ _ hs1.sat).2.1;have c1:=(HCl.o _ _ _ hs1.sat).1;obtain⟨er,her⟩: ∃ er:Int,(if (bu Ms gs xn).isSome=true then (0:Int) else 104)=er:=⟨_,rfl⟩;obtain⟨z,hz⟩: ∃ z,z=(bu Ms gs xn).bind (ba kl):=⟨_,rfl⟩;obtain⟨L,hL⟩: ∃ L,L=z.getD []:=⟨_,rfl⟩;obtain⟨bo,hbo⟩: ∃ bo,bo=z.isSome:=⟨_,rfl⟩;have HGe:Hid (Calls Tryz.prog 42 #[.pointer (some ⟨b,0,none⟩),.int .i64 xn,.slice kA kl.length kc] W fun e w'=> ∃ A c,e = .returned (.tuple #[.slice A L.length c,.bool bo,.int .i64 er])/\aY w0 (Row 5 1 (.slice A L.length c) L.length (L.map bv)*(Pt E 80 CS*(bm g M Ms gs*(bj kb m*F)))) b d n t k a (Ms.length+1) M (bu Ms gs) w'):=ah (by
       have h9:=Il xn (kA,kc,kl) hxn (HRd.o _ hs1.sat.right.right.right).1 ht hs1 z er (by
        rw[hz, <-her]
        cases bu Ms gs xn with
        | none=>exact .inl ⟨rfl,rfl,rfl⟩
        | some Mo=>exact .inr ⟨Mo,rfl,rfl,rfl⟩)
       rw[<-hL, <-hbo] at h9;exact h9)
      have HAt:Hid (∀ A c W,aY w0 (Row 5 1 (.slice A L.length c) L.length (L.map bv)*(Pt E 80 CS*(bm g M Ms gs*(bj kb m*F)))) b d n t k a (Ms.length+1) M (bu Ms gs) W->Calls Tryz.prog 86 #[.pointer (some ⟨g,0,none⟩),.int .i64 xn] W fun x w'=> ∃ va vn vc,x = .returned (.tuple #[.agg #[.slice va vn vc],.int .i64 er])/\aY w0 (bQ (.slice va vn vc) ((bu Ms gs xn).getD [])*(bm g M Ms gs*(Row 5 1 (.slice A L.length c) L.length (L.map bv)*(Pt E 80 CS*(bj kb m*F))))) b d n t k a (Ms.length+1) M (bu Ms gs) w'):=ah fun A c W hW=>by
       have h9:=Mz xn hxn (hW.of (show _=bm g M Ms gs*(Row 5 1 (.slice A L.length c) L.length (L.map bv)*(Pt E 80 CS*(bj kb m*F))) by ac_rfl)) (by omega);rw[her] at h9;exact h9
      have HMg:Hid (∀ A c va vn vc o W,aY w0 (Ow o (.cells #[.slice va vn vc] 32)*(bQ (.slice va vn vc) ((bu Ms gs xn).getD [])*(bm g M Ms gs*(Row 5 1 (.slice A L.length c) L.length (L.map bv)*(Pt E 80 CS*(bj kb m*F)))))) b d n t k a (Ms.length+1) M (bu Ms gs) W->Calls Tryz.prog 81 #[.agg #[.slice va vn vc],.slice kA kl.length kc] W fun x w'=> ∃ A2 c2,x = .returned (.tuple #[.slice A2 L.length c2,.bool bo])/\Rd w' A2 L/\aY w0 (Row 5 1 (.slice A L.length c) L.length (L.map bv)*(Pt E 80 CS*(bm g M Ms gs*(bj kb m*F)))) b d n t k a (Ms.length+1) M (bu Ms gs) w'):=ah fun A c va vn vc o W hW=>by
       refine(Kl (kA,kc,kl) (fun W hW=>(HRd.o _ hW.right.right.right.right).1) hW.drop (by have:=BU (Ms:=Ms) (gs:=gs) (i:=xn) HMs.o;omega)).mono ?_;rintro e w' ⟨A2,c2,rfl,h8,h9⟩;have e1:ba kl ((bu Ms gs xn).getD [])=z:=by rw[Gu,hz]
       rw[show (kA,kc,kl).2.2=kl from rfl,e1, <-hL] at h8;refine⟨A2,c2,?_,h8,?_⟩
       .rw[show (kA,kc,kl).2.2=kl from rfl,e1, <-hL, <-hbo]
       .exact h9.drop.drop.of (by ac_rfl)
      clear hs1 hL hbo hz her;go_upto_region 15 with (go_at_call 42;(with_reducible refine HGe.o.mono ?_);rintro e w3 ⟨A3,c3',rfl,hs⟩;have HS3:=ah hs;clear hs)
      clear c3 c1 HGe HS;have c1:=(HCl.o _ _ _ HS3.o.sat.right).1;go_upto_region 16 with (go_at_call 86;(with_reducible refine(HAt.o _ _ _ HS3.o).mono ?_);rintro e w4 ⟨va,vn,vc,rfl,hs⟩;have HS4:=ah hs;clear hs)
      clear c1 HAt HS3;have hs5:=HS4.o.al (.cells #[.slice va vn vc] 32);revert hs5;generalize w4.alloc _=W5;intro hs5;generalize w4.heap.size=O5 at*
      have c3:=(HCl.o _ _ _ hs5.sat.right.right.right.right).2.1;have o0:W5.cell? ⟨O5,0,none⟩=some (.slice va vn vc):=Sat.cell hs5.sat 0;have HS5:=ah hs5;clear hs5 HS4;go_upto_region 17 with (go_at_call 81;(with_reducible refine(HMg.o _ _ _ _ _ _ _ HS5.o).mono ?_);rintro e w6 ⟨A6,c6,rfl,hrd,hs⟩;have HR6:=ah hrd;have HS6:=ah hs;clear hrd hs)
      clear c3 o0 HMg HS5;have HSa:Hid (Calls Tryz.prog 36 #[.slice A3 L.length c3',.slice A6 L.length c6] w6 fun x w'=>x = .returned (.bool true)/\w6=w'):=ah (by
       have h9:=uP A3 A6 c3' c6 L L w6 HS6.o.sat.cj HR6.o;rw[decide_eq_true rfl] at h9;exact h9)
      go_wp2_with (first
       | (go_at_call 36;(with_reducible refine HSa.o.mono ?_);rintro e wx ⟨rfl,rfl⟩)
       | (go_at_call 29;(with_reducible refine(dr _ _).mono ?_);rintro e wx ⟨rfl,rfl⟩))
      go_ret;exact⟨rfl,HFi.o _ HS6.o.drop.drop⟩
     .by_cases h6:dd=6
      .subst h6;have hs1:=HS.o;have c1:=(HCl.o _ _ _ hs1.sat).1;have c3:=(HCl.o _ _ _ hs1.sat).2.1;have c4:=(HCl.o _ _ _ hs1.sat).2.2;obtain⟨er,her⟩: ∃ er:Int,(if (bu Ms gs xn).isSome=true then (0:Int) else 104)=er:=⟨_,rfl⟩;obtain⟨MS,hMS⟩: ∃ MS,MS=(dU kl tl ((bu Ms gs xn).getD [])).take (9:Int).toNat:=⟨_,rfl⟩;have hMl2:MS.length<=9:=by rw[hMS,List.length_take];show min 9 _<=9;omega
       have HSc:Hid (Calls Tryz.prog 45 #[.pointer (some ⟨b,0,none⟩),.int .i64 xn,.slice kA kl.length kc,.slice tA tl.length tc,.int .i64 9] W fun x w'=> ∃ (B:Option Addr) (c:Nat) (qs es:List En),x = .returned (.tuple #[.slice B qs.length c,.int .i64 er])/\az qs=MS/\(∀ z ∈ qs,z ∈ es)/\aY w0 (eV B c qs es*(Pt E 80 CS*(bm g M Ms gs*(bj kb m*F)))) b d n t k a (Ms.length+1) M (bu Ms gs) w'):=FL xn (kA,kc,kl) (tA,tc,tl) 9 hxn (HRd.o _ hs1.sat.right.right.right).1 (HRd.o _ hs1.sat.right.right.right).2 ht hs1 MS er (by
        rw[hMS, <-her]
        cases bu Ms gs xn with
        | none=>exact .inl ⟨rfl,rfl,rfl⟩
        | some Mo=>exact .inr ⟨Mo,rfl,rfl,rfl⟩)
       have HAt:Hid (∀ B c qs es W,aY w0 (eV B c qs es*(Pt E 80 CS*(bm g M Ms gs*(bj kb m*F)))) b d n t k a (Ms.length+1) M (bu Ms gs) W->Calls Tryz.prog 86 #[.pointer (some ⟨g,0,none⟩),.int .i64 xn] W fun x w'=> ∃ va vn vc,x = .returned (.tuple #[.agg #[.slice va vn vc],.int .i64 er])/\aY w0 (bQ (.slice va vn vc) ((bu Ms gs xn).getD [])*(bm g M Ms gs*(eV B c qs es*(Pt E 80 CS*(bj kb m*F))))) b d n t k a (Ms.length+1) M (bu Ms gs) w'):=ah fun B c qs es W hW=>by
        have h9:=Mz xn hxn (hW.of (show _=bm g M Ms gs*(eV B c qs es*(Pt E 80 CS*(bj kb m*F))) by ac_rfl)) (by omega);rw[her] at h9;exact h9
       have HMs2:Hid (∀ B c qs es va vn vc o W,aY w0 (Ow o (.cells #[.slice va vn vc] 32)*(bQ (.slice va vn vc) ((bu Ms gs xn).getD [])*(bm g M Ms gs*(eV B c qs es*(Pt E 80 CS*(bj kb m*F)))))) b d n t k a (Ms.length+1) M (bu Ms gs) W->Calls Tryz.prog 83 #[.agg #[.slice va vn vc],.slice kA kl.length kc,.slice tA tl.length tc,.int .i64 9] W fun x w'=> ∃ (C:Option Addr) (c2:Nat) (fs:List En),x = .returned (.slice C fs.length c2)/\az fs=MS/\aY w0 (Ow o (.cells #[.slice va vn vc] 32)*(eH (.slice C fs.length c2) fs*(eV B c qs es*(Pt E 80 CS*(bm g M Ms gs*(bj kb m*F)))))) b d n t k a (Ms.length+1) M (bu Ms gs) w'):=ah fun B c qs es va vn vc o W hW=>by
        rw[hMS];refine(Ic (kA,kc,kl) (tA,tc,tl) 9 (F:=Ow o (.cells #[.slice va vn vc] 32)*(bm g M Ms gs*(eV B c qs es*(Pt E 80 CS*(bj kb m*F))))) (fun W hW=>HRd.o _ hW.right.right.right.right.right) (hW.of (aK _ _ _)) (by have:=BU (Ms:=Ms) (gs:=gs) (i:=xn) HMs.o;omega)).mono ?_;rintro e w' ⟨C,c2,fs,rfl,h8,h9⟩;refine⟨C,c2,fs,rfl,h8,?_⟩;exact((h9.of (aK _ _ _)).drop).of (by ac_rfl)
       have HPa:Hid (∀ B c qs es C c2 fs va vn vc o W,az qs=MS->az fs=MS->(∀ z ∈ qs,z ∈ es)->aY w0 (Ow o (.cells #[.slice va vn vc] 32)*(eH (.slice C fs.length c2) fs*(eV B c qs es*(Pt E 80 CS*(bm g M Ms gs*(bj kb m*F)))))) b d n t k a (Ms.length+1) M (bu Ms gs) W->Calls Tryz.prog 23 #[.slice B qs.length c,.slice C fs.length c2] W fun x w'=>x = .returned (.bool true)/\aY w0 (Ow o (.cells #[.slice va vn vc] 32)*(eH (.slice C fs.length c2) fs*(eV B c qs es*(Pt E 80 CS*(bm g M Ms gs*(bj kb m*F)))))) b d n t k a (Ms.length+1) M (bu Ms gs) w'):=ah fun B c qs es C c2 fs va vn vc o W e1 e2 e3 hW=>mN (sG e3).left.left nP.left (e1.trans e2.symm) (by have h4:=congrArg List.length e1;rw[bB] at h4;omega) hW
       clear hs1 hMS her;go_upto_region 20 with (go_at_call 45;(with_reducible refine HSc.o.mono ?_);rintro e w3 ⟨B3,c3',qs,es3,rfl,hq1,hq2,hs⟩;have HQ1:=ah hq1;have HQ2:=ah hq2;have HS3:=ah hs;clear hq1 hq2 hs)
       clear c3 c1 c4 HSc HS;have c1:=(HCl.o _ _ _ HS3.o.sat.right).1;go_upto_region 21 with (go_at_call 86;(with_reducible refine(HAt.o _ _ _ _ _ HS3.o).mono ?_);rintro e w4 ⟨va,vn,vc,rfl,hs⟩;have HS4:=ah hs;clear hs)
       clear c1 HAt HS3;have hs5:=HS4.o.al (.cells #[.slice va vn vc] 32);revert hs5;generalize w4.alloc _=W5;intro hs5;generalize w4.heap.size=O5 at*
       have c3:=(HCl.o _ _ _ hs5.sat.right.right.right.right).2.1;have c4:=(HCl.o _ _ _ hs5.sat.right.right.right.right).2.2;have o0:W5.cell? ⟨O5,0,none⟩=some (.slice va vn vc):=Sat.cell hs5.sat 0;have HS5:=ah hs5;clear hs5 HS4;go_wp2_with (first
        | (go_at_call 29;(with_reducible refine(dr _ _).mono ?_);rintro e wx ⟨rfl,rfl⟩)
        | (go_at_call 83;(with_reducible refine(HMs2.o _ _ _ _ _ _ _ _ _ HS5.o).mono ?_);rintro e w6 ⟨C6,c6,fs,rfl,hf1,hs⟩;have HF1:=ah hf1;have HS6:=ah hs;clear hf1 hs)
        | (go_at_call 23;(with_reducible refine(HPa.o _ _ _ _ _ _ _ _ _ _ _ _ HQ1.o HF1.o HQ2.o HS6.o).mono ?_);rintro e w7 ⟨rfl,hs⟩;have HS7:=ah hs;clear hs))
       go_ret;exact⟨rfl,HFi.o _ HS7.o.drop.drop.drop.drop⟩
      .by_cases h7:dd=7
       .subst h7;have ha:=H7.o rfl;subst ha;have HTi:Hid (Calls Tryz.prog 35 #[.pointer (some ⟨b,0,none⟩)] W fun x w'=>x = .returned (.int .i64 0)/\aY w0 (Pt E 80 CS*(bm g M Ms gs*(bj kb m*F))) b d n t (k+1) 0 (Ms.length+1) M (bu Ms gs) w'):=ME (by omega) ht HS.o;clear HS;go_wp2_with (first
         | (go_at_call 35;(with_reducible refine HTi.o.mono ?_);rintro e w3 ⟨rfl,hs⟩;have HS3:=ah hs;clear hs)
         | (go_at_call 29;(with_reducible refine(dr _ _).mono ?_);rintro e wx ⟨rfl,rfl⟩))
        go_ret;exact⟨rfl,HFin.o _ Ms gs (k+1) (by omega) HMs.o (Nat.le_refl _) (aY.lh HS3.o.drop (by omega))⟩
       .have g1:((dd:Int)==1)=false:=by rw[beq_eq_false_iff_ne];omega
        have g2:((dd:Int)==2)=false:=by rw[beq_eq_false_iff_ne];omega
        have g3:((dd:Int)==3)=false:=by rw[beq_eq_false_iff_ne];omega
        have g4:((dd:Int)==4)=false:=by rw[beq_eq_false_iff_ne];omega
        have g5:((dd:Int)==5)=false:=by rw[beq_eq_false_iff_ne];omega
        have g6:((dd:Int)==6)=false:=by rw[beq_eq_false_iff_ne];omega
        have g7:((dd:Int)==7)=false:=by rw[beq_eq_false_iff_ne];omega
        clear h1 h2 h3 h4 h5 h6 h7;have hs3:=HS.o.map fun G hG=>hG.drew
        obtain⟨LA,lc,R,hc,hs4⟩:=(hs3.of (show _=bm g M Ms gs*(Pt E 80 CS*(bj kb m*F)) by ac_rfl)).now;have HK:Hid (∀ W,aY w0 (R*(Pt E 80 CS*(bj kb m*F))) b d n t k a (Ms.length+1) M (bu Ms gs) W->W.cell? ⟨g,0,none⟩=some (.slice LA M.length lc)/\W.cell? ⟨E,1,none⟩=some (.int .i64 xn)/\W.cell? ⟨E,3,none⟩=some (.slice kA kl.length kc)/\W.cell? ⟨E,4,none⟩=some (.slice tA tl.length tc)):=ah fun W hW=>⟨(hc _ _ hW).1,HCl.o _ _ _ hW.sat.right⟩
        have HB:Hid (∀ W,aY w0 (R*(Pt E 80 CS*(bj kb m*F))) b d n t k a (Ms.length+1) M (bu Ms gs) W->iJ w0 F b d n t (k+1) a g kb (m+1) (q+1) M W):=ah fun W hW=>HFi.o _ ((hc _ _ hW).2.of (show _=Pt E 80 CS*(bm g M Ms gs*(bj kb m*F)) by ac_rfl)).drop
        have HS4:=ah hs4;clear hs3 hc hs4 HS;go_upto_region 24 with fail;refine wp_region_held_drew (S:=fun w'=>w'.cell? ⟨g,0,none⟩=some (.slice LA M.length lc)/\w'.cell? ⟨E,1,none⟩=some (.int .i64 xn)/\w'.cell? ⟨E,3,none⟩=some (.slice kA kl.length kc)/\w'.cell? ⟨E,4,none⟩=some (.slice tA tl.length tc)) (by kernel_rfl) (HK.o _ HS4.o.drop) ?_;intro hS0;refine an 0 2 3 4 ?_;refine cm 5 6 ?_;refine cH 7 ?_;refine bR 1 fun K hK=>?_
        go_simp;go_at_call 31;refine(Gy ht HS4.o).mono ?_;rintro e w1 ⟨rfl,hs⟩;have HS1:=ah hs;clear hs
        refine hK.out _ _ (HK.o _ HS1.o.drop) (fun hS0=>?_);clear hK K;refine cm 8 9 ?_;refine cH 10 ?_;refine bR 11 fun K hK=>?_
        go_simp;go_at_call 87;refine(MP HS1.o).mono ?_;rintro e wx ⟨rfl,rfl⟩
        refine hK.out _ _ (HK.o _ HS1.o.drop) (fun hS0=>?_);clear hK K;refine cm 12 13 ?_;refine cH 14 ?_;refine wpAnyH_done (by kernel_rfl) ?_ _;go_wp2_with fail;go_ret;exact⟨rfl,HB.o _ HS1.o.drop⟩
end
def lL (M:List Kv):Prop:= ∀ p ∈ M,p.1.length<=128/\p.2.length<=200
theorem Is {c:cJ} {M:List Kv} (h:lL M) (hc:c.key.length<=128/\c.value.length<=200):lL (fG c M):=fun p hp=>by
 rcases yW hp with hp | rfl
 .exact h p hp
 .exact hc
theorem oS: ∀ {cs:List cJ} {M:List Kv},(∀ c ∈ cs,c.key.length<=128/\c.value.length<=200)->lL M->lL (bq cs M)
 | [],M,_,h=>h
 | c::cs,M,hc,h=>oS (cs:=cs) (M:=fG c M) (fun x hx=>hc x (List.mem_cons_of_mem _ hx)) (Is h (hc c List.mem_cons_self))
theorem zw: ∀ {M:List Kv},lL M->eW M<=M.length*368
 | [],_=>Nat.le_refl _
 | p::M,h=>by
  have h1:=zw (M:=M) fun q hq=>h q (List.mem_cons_of_mem _ hq)
  have h2:=h p List.mem_cons_self;rw[Ee,List.length_cons];omega
theorem xz: ∀ {cs:List cJ},(∀ c ∈ cs,c.key.length<=128/\c.value.length<=200)->(aJ cs).length<=cs.length*332
 | [],_=>by decide
 | c::cs,h=>by
  have h1:=xz (cs:=cs) fun x hx=>h x (List.mem_cons_of_mem _ hx)
  have h2:=h c List.mem_cons_self;rw[gT,List.length_append,gp,List.length_cons];omega
theorem Bw {n:Nat} {M:List Kv} {cs:List cJ} (hM:lL M) (hc: ∀ c ∈ cs,c.key.length<=128/\c.value.length<=200) (hl:cs.length<=12) (hn:(n=8192/\M.length+cs.length<=960)\/(n=4096/\M.length+cs.length<=600)):fh n (bq cs M) cs=false:=by
 have h1:=zw (oS hc hM);have h2:=oL cs M;have h3:=xz hc;have h4:bz (aJ cs).length<=9:=by
  unfold bz;split
  .omega
  .omega
 unfold fh;rw[Bool.or_eq_false_iff,decide_eq_false_iff_not,decide_eq_false_iff_not];rcases hn with ⟨rfl,hn⟩ | ⟨rfl,hn⟩
 .have e1:aG 8192=1026:=by decide
  have e2:9<=bC 8192:=by decide
  rw[e1];have h5:(bq cs M).length*368<=960*368:=Nat.mul_le_mul_right _ (by omega);omega
 .have e1:aG 4096=480:=by decide
  have e2:9<=bC 4096:=by decide
  rw[e1];have h5:(bq cs M).length*368<=600*368:=Nat.mul_le_mul_right _ (by omega);omega
def KG (cs:List cJ):Int:=(dB cs:Nat)
def IB (cs:List cJ) (M:List Kv):List Kv:=if dB cs=0 then bq cs M else M
theorem BC {ps:List Pu} (hk:dB ((fk ps).map Pu.bE)=0): ∀ c ∈ (fk ps).map Pu.bE,c.key.length<=128/\c.value.length<=200:=fun c hc=>by
 refine⟨((zm.1 hk).each c hc).key.2,?_⟩;obtain⟨p,hp,rfl⟩:=List.mem_map.1 hc;exact(ya p hp).2
theorem IX {ps:List Pu} {M:List Kv} (h:lL M):lL (IB ((fk ps).map Pu.bE) M):=by
 unfold IB;split
 .rename_i hk;exact oS (BC hk) h
 .exact h
section
variable {w0 w w':World} {F F' A B:SP} {b d n t k a nx g kb m q:Nat} {M N:List Kv} {olds:Int->Option (List Kv)} {Ms:List (List Kv)} {gs:List Bool} {v:Value} {ps:List Pu} {s:cW}
theorem M9 (x:nB) (h:aY w0 F b d n t k a nx M olds w) (hb: ∀ W,Sat w0 F W->aH W x.bA (x.ps.flatMap dQ)) (hbc:x.ps.length<=x.bc/\x.bc<=9223372036854775807) (hsz: ∀ p ∈ x.ps,p.key.2.2.length<=p.key.2.1/\p.value.2.2.length<=p.value.2.1):
 Calls Tryz.prog 44 #[.agg (Bg x)] w fun e w'=> ∃ B c,e = .returned (.agg (Bg { x with bA:=B,bc:=c,ps:=fk x.ps }))/\aY w0 (Row 43 3 (.slice B (fk x.ps).length c) (fk x.ps).length ((fk x.ps).flatMap dQ)*F) b d n t k a nx M olds w':=by
 obtain⟨G,hG,hR⟩:=h.re;refine(wW x hG (fun W hW=>hb W hW.MT) hbc hsz).mono ?_;rintro e w' ⟨B,c,rfl,hs⟩;exact⟨B,c,rfl,hR _ _ (hs.of (by ac_rfl))⟩
theorem BL (Ad:Option Addr) (c:Nat) (ps:List Pu) (h:aY w0 (bm g N Ms gs*F) b d n t k a nx M olds w) (hb: ∀ W,Sat w0 F W->aH W Ad (ps.flatMap dQ)/\eJ W ps) (hl:N.length+ps.length<=10000) (hz: ∀ p ∈ ps,p.key.2.2.length<=1000000/\p.value.2.2.length<=1000000):
 Calls Tryz.prog 22 #[.pointer (some ⟨g,0,none⟩),.slice Ad ps.length c] w fun x w'=>x = .returned (.int .i64 (KG (ps.map Pu.bE)))/\aY w0 (bm g (IB (ps.map Pu.bE) N) Ms gs*F) b d n t k a nx M olds w':=by
 obtain⟨G,hG,hR⟩:=h.re;refine(zX Ad c ps (F:=F*G) (hG.of (aj _ _ _)) (fun W hW=>hb W hW.MT) hl hz).mono ?_;rintro x w' ⟨rfl,hs⟩;exact⟨rfl,hR _ _ (hs.of (by unfold IB;ac_rfl))⟩
theorem Gq (h:aY w0 (bm g N Ms gs*F) b d n t k a nx M olds w):
 Calls Tryz.prog 47 #[.pointer (some ⟨g,0,none⟩)] w fun x w'=>x = .returned (.tuple #[])/\aY w0 (bm g N [] []*F) b d n t k a nx M olds w':=by
 obtain⟨G,hG,hR⟩:=h.re;refine(zg (hG.of (aj _ _ _))).mono ?_;rintro x w' ⟨rfl,hs⟩;exact⟨rfl,hR _ _ (hs.of (by ac_rfl))⟩
theorem JZ {A:Option Addr} {l:List nB} (h:aH w A (l.flatMap oT)) {i:Nat} (hi:i<l.length): ∃ b o,A=some ⟨b,o,none⟩/\w.cell? ⟨b,o+i*8,none⟩=some (.int .i64 l[i].op)/\w.cell? ⟨b,o+i*8+1,none⟩=some (.int .i64 l[i].n)/\w.cell? ⟨b,o+i*8+2,none⟩=some (.slice l[i].bA l[i].ps.length l[i].bc)/\w.cell? ⟨b,o+i*8+3,none⟩=some (aO l[i].key)/\w.cell? ⟨b,o+i*8+4,none⟩=some (aO l[i].too)/\w.cell? ⟨b,o+i*8+5,none⟩=some (.slice l[i].kA l[i].keep.length l[i].kc)/\w.cell? ⟨b,o+i*8+6,none⟩=some (.int .i64 l[i].torn)/\w.cell? ⟨b,o+i*8+7,none⟩=some (.int .i64 l[i].cut):=by
 obtain⟨b,o,rfl,hc⟩:=aH.elem (f:=oT) (k:=8) (fun _=>rfl) (by decide) h hi;refine⟨b,o,rfl,by simpa [oT] using hc 0 (by decide),?_,?_,?_,?_,?_,?_,?_⟩
 .have:=hc 1 (by decide);rw[<-Nat.add_assoc] at this;simpa [oT] using this
 .have:=hc 2 (by decide);rw[<-Nat.add_assoc] at this;simpa [oT] using this
 .have:=hc 3 (by decide);rw[<-Nat.add_assoc] at this;simpa [oT] using this
 .have:=hc 4 (by decide);rw[<-Nat.add_assoc] at this;simpa [oT] using this
 .have:=hc 5 (by decide);rw[<-Nat.add_assoc] at this;simpa [oT] using this
 .have:=hc 6 (by decide);rw[<-Nat.add_assoc] at this;simpa [oT] using this
 .have:=hc 7 (by decide);rw[<-Nat.add_assoc] at this;simpa [oT] using this
theorem iJ.emp {g kb m q:Nat} (h:iJ w0 F b d n t k a g kb m q M w):iJ w0 aV b d n t k a g kb m q M w:=by
 obtain⟨Ms,gs,h1,h2,h3⟩:=h;exact⟨Ms,gs,h1,h2,((h3.of (show _=F*(bm g M Ms gs*bj kb m) by ac_rfl)).drop).of (by rw[ik])⟩
theorem iJ.mono {g kb m q t' k' m' q':Nat} (h:iJ w0 F b d n t k a g kb m q M w) (ht:t<=t') (hk:k<=k') (hm:m<=m') (hq:q<=q'):iJ w0 F b d n t' k' a g kb m' q' M w:=by
 obtain⟨Ms,gs,h1,h2,h3⟩:=h;exact⟨Ms,gs,by omega,h2,aY.lh (h3.mono ht hk) hm⟩
theorem ru:bu [] []=fun _=>none:=by
 funext j
 unfold bu;rw[if_neg];rintro ⟨_,h⟩
 cases h
end
def ke (w0:World) (F:SP) (d n t k:Nat) (Ms:List (List Kv)) (off:Bool) (w:World):Prop:=
 ∃ D,D.cells.length=n/\64<=n/\n<=65536/\D.off=off/\mS n t k D Ms/\Sat w0 (ae d D*F) w
def Ln (w0:World) (F:SP) (d n t k a:Nat) (Ms:List (List Kv)) (w:World):Prop:=
 ∃ D S,cP D=(some S,0)/\pT n t k D S Ms/\D.armed=a/\Sat w0 (ae d D*F) w
section
variable {w0 w w':World} {F F':SP} {b d n t k a nx:Nat} {M:List Kv} {olds:Int->Option (List Kv)} {Ms:List (List Kv)} {off:Bool}
theorem ke.sat (h:ke w0 F d n t k Ms off w):Sat w0 F w:=by
 obtain⟨D,_,_,_,_,_,h1⟩:=h;exact h1.right
theorem ke.of (h:ke w0 F d n t k Ms off w) (e:F=F'):ke w0 F' d n t k Ms off w:=by subst e;exact h
theorem ke.mono (h:ke w0 F d n t k Ms off w) {t' k':Nat} (ht:t<=t') (hk:k<=k'):ke w0 F d n t' k' Ms off w:=by
 obtain⟨D,h1,h2,h3,h4,h5,h6⟩:=h;exact⟨D,h1,h2,h3,h4,h5.mono ht hk,h6⟩
theorem aY.NQ (hk:k<=100000) (h:aY w0 F b d n t k a nx M olds w):ke w0 F d n t (k+1) [M] false w:=by
 obtain⟨s,S,v,D,h1,h2,h3,h4⟩:=h;exact⟨D,h1.len.1,h1.len.2.1,h1.len.2.2.1,h1.len.2.2.2,h1.bS hk,h4.right.right⟩
theorem J7 {D:Dk} (h:mS n t k D Ms):mS n t k { D with off:=true } Ms:=⟨⟨h.1.writes,h.1.pend⟩,h.2⟩
theorem Nl (h:ke w0 F d n t k Ms off w):
 Calls Tryz.prog 38 #[.pointer (some ⟨d,0,none⟩)] w fun e w'=>e = .returned (.tuple #[])/\ke w0 F d n t k Ms true w':=by
 obtain⟨D,h1,h2,h3,h4,h5,h6⟩:=h;refine(I3 d D w0 w F h6).mono ?_;rintro e w' ⟨rfl,h7⟩;exact⟨rfl,{ D with off:=true },h1,h2,h3,rfl,J7 h5,h7⟩
theorem NL (Kp:Option Addr) (kc:Nat) (keep:List Bool) (torn bytes:Int) (hk:k<=10000) (hkc:keep.length<=9223372036854775807) (h:ke w0 (Ro Kp (keep.map Value.bool)*F) d n t k Ms true w):
 Calls Tryz.prog 39 #[.pointer (some ⟨d,0,none⟩),.slice Kp keep.length kc,.int .i64 torn,.int .i64 bytes] w fun e w'=>e = .returned (.tuple #[])/\Ln w0 (Ro Kp (keep.map Value.bool)*F) d n t k 0 Ms w':=by
 obtain⟨D,h1,h2,h3,h4,h5,h6⟩:=h;refine(LD d D Kp kc keep torn bytes w0 w F h6 (by have:=h5.1.pend;omega) hkc).mono ?_;rintro e w' ⟨rfl,h7⟩;have e1:D.on keep torn bytes=D.bS keep torn bytes:=by
  obtain⟨cells,pend,armed,writes,o⟩:=D;subst h4;rfl
 rw[e1] at h7;obtain⟨S',g1,g2⟩:=h5.2 keep torn bytes;exact⟨rfl,_,S',g1,g2,xe,h7⟩
theorem EJ (h:ke w0 F d n t k Ms off w):
 Calls Tryz.prog 40 #[.pointer (some ⟨d,0,none⟩)] w fun e w'=>e = .returned (.bool off)/\w=w':=by
 obtain⟨D,h1,h2,h3,h4,h5,h6⟩:=h;have h9:=ql d D w0 w F h6;rw[h4] at h9;exact h9
theorem M6 (h:aY w0 F b d n t k a nx M olds w):
 Calls Tryz.prog 40 #[.pointer (some ⟨d,0,none⟩)] w fun e w'=>e = .returned (.bool false)/\w=w':=by
 obtain⟨s,S,v,D,h1,h2,h3,h4⟩:=h;have h9:=ql d D w0 w F h4.right.right;rw[h1.len.2.2.2] at h9;exact h9
theorem MZ (x:Int) (h:aY w0 F b d n t k a nx M olds w):
 Calls Tryz.prog 37 #[.pointer (some ⟨d,0,none⟩),.int .i64 x] w fun e w'=>e = .returned (.tuple #[])/\aY w0 F b d n t k x.toNat nx M olds w':=by
 obtain⟨s,S,v,D,h1,h2,h3,h4⟩:=h;refine(IU d D x w0 w _ h4.bD).mono ?_;rintro e w' ⟨rfl,h5⟩;exact⟨rfl,s,S,v,_,h1.arm _,Nat.le_refl _,h3,h5.Nx⟩
theorem Kr (ht:t<=1024) (hk:k<=10000) (ha:a<=9223372036854775807) (h:Ln w0 F d n t k a Ms w):
 Calls Tryz.prog 19 #[.pointer (some ⟨d,0,none⟩)] w fun x w'=> ∃ M ∈ Ms,(∃ b,x = .returned (.tuple #[.pointer (some ⟨b,0,none⟩),.int .i64 0])/\aY w0 F b d n t (k+1) a 1 M (fun _=>none) w')\/(a≠0/\x = .returned (.tuple #[.pointer none,.int .i64 21])/\ke w0 F d n t (k+1) [M] true w'):=by
 obtain⟨D,S,h1,h2,h3,h4⟩:=h;subst h3;refine(oR d n t k D h2 h1 ht hk ha h4).mono ?_;rintro x w' ⟨M',hM,⟨b',s',S2,D2,v2,rfl,g1,g2,g3,g4,g5⟩ | ⟨rfl,g1,D',g2,g3,g4,g5⟩⟩
 .exact⟨M',hM,.inl ⟨b',rfl,s',S2,v2,D2,g1,g2,g4,g5⟩⟩
 .exact⟨M',hM,.inr ⟨g1,rfl,D',g3,h2.len.2.1,h2.len.2.2.1,g2,g4,g5⟩⟩
theorem LI (ht:t<=1024) (hk:k<=10000) (h:Ln w0 F d n t k 0 Ms w):
 Calls Tryz.prog 19 #[.pointer (some ⟨d,0,none⟩)] w fun x w'=> ∃ M ∈ Ms, ∃ b,x = .returned (.tuple #[.pointer (some ⟨b,0,none⟩),.int .i64 0])/\aY w0 F b d n t (k+1) 0 1 M (fun _=>none) w':=by
 refine(Kr ht hk (by omega) h).mono ?_;rintro x w' ⟨M',hM,h1 | ⟨h1,_⟩⟩
 .exact⟨M',hM,h1⟩
 .exact absurd rfl h1
theorem Ls (ht:t<=1024) (hk:k<=10000) (ha:a<=9223372036854775807) (h:Ln w0 F d n t k a [M] w):
 Calls Tryz.prog 19 #[.pointer (some ⟨d,0,none⟩)] w fun x w'=> ∃ (pv:Value) (er:Int),x = .returned (.tuple #[pv,.int .i64 er])/\Hid ((∃ b,pv = .pointer (some ⟨b,0,none⟩)/\er=0/\aY w0 F b d n t (k+1) a 1 M (fun _=>none) w')\/(pv = .pointer none/\er=21/\ke w0 F d n t (k+1) [M] true w')):=by
 refine(Kr ht hk ha h).mono ?_;rintro x w' ⟨M',hM,⟨b,rfl,h1⟩ | ⟨_,rfl,h1⟩⟩
 .rw[List.mem_singleton] at hM;subst hM;exact⟨_,_,rfl,.inl ⟨b,rfl,rfl,h1⟩⟩
 .rw[List.mem_singleton] at hM;subst hM;exact⟨_,_,rfl,.inr ⟨rfl,rfl,h1⟩⟩
end
end Go.Proofs.YtmbaiglpgaoogaaGreat
